/- Goals that are built in, clauses and resolvents that are tried: by what nodes stand for. No program in sight. -/
import Derived.Test.YtgllldjiaglkcaaGreatDoorZUf25
namespace Go.Proofs.YtgllldjiaglkcaaGreatDoor
section
open Go Go.RowKit
theorem FX (f:Int->Int) (t:T):(mvT f t).kids=mvL f t.kids:=by cases t; rfl
theorem vD (f:Int->Int) (t:T) (i:Nat):kd (mvT f t) i=mvT f (kd t i):=by
 have a:mvT f zT=zT:=rfl;unfold kd;rw [FX,SA,x0,x0,Vw];cases t.kids[i]? with
 | none=>exact a.symm
 | some x=>rfl
mutual
theorem Si {N:Nat} {f:Int->Int}:∀ t u:T,okU N t->okU N u->(∀ a∈vT t,∀ b∈vT u,f (a:Int)=f (b:Int)->a=b)->mvT f t=mvT f u->t=u
 | .mk k n s ks,.mk k' n' s' ks',h,h',hf,e=>by
  rw [okU] at h h';rw [mvT,mvT,T.mk.injEq] at e;obtain ⟨rfl,e2,rfl,g⟩:=e;rw [vT,vT] at hf;by_cases hk:k=1
  ·obtain ⟨i,_,_,rfl⟩:=h.2.1 hk;obtain ⟨l,_,_,rfl⟩:=h'.2.1 hk;rw [ai hk,ai hk] at hf e2;have:=hf n.toNat (bK.2 rfl) n'.toNat (bK.2 rfl);rw [nR i,nR l] at this;have:=this e2;obtain rfl:n=n':=by omega
   rfl
  ·rw [ag hk,ag hk] at hf e2;rw [e2,Rc ks ks' h.2.2.1 h'.2.2.1 hf g]
theorem Rc {N:Nat} {f:Int->Int}:∀ ts us:List T,bL N ts->bL N us->(∀ a∈vTL ts,∀ b∈vTL us,f (a:Int)=f (b:Int)->a=b)->mvL f ts=mvL f us->ts=us
 | [],[],_,_,_,_=>rfl
 | [],_::_,_,_,_,e=>by rw [mvL,mvL] at e; cases e
 | _::_,[],_,_,_,e=>by rw [mvL,mvL] at e; cases e
 | t::ts,u::us,h,h',hf,e=>by
  rw [bL] at h h';rw [mvL,mvL,dK] at e;rw [Si t u h.1 h'.1 (fun a g b i=>hf a (by rw [vTL]; exact cZ _ g) b (by rw [vTL]; exact cZ _ i)) e.1,
   Rc ts us h.2 h'.2 (fun a g b i=>hf a (by rw [vTL]; exact fb _ g) b (by rw [vTL]; exact fb _ i)) e.2]
end
mutual
theorem IP (f:Int->Int):∀ t:T,du (mvT f t)=du t
 | .mk k n s ks=>by
  rw [mvT,du,du,Bx f ks];by_cases hk:k=1
  ·rw [ai hk,ai hk]
  ·rw [ag hk,ag hk,ag hk]
theorem Bx (f:Int->Int):∀ ts:List T,fe (mvL f ts)=fe ts
 | []=>rfl
 | t::ts=>by rw [mvL,fe,fe,IP f t,Bx f ts]
end
theorem UZ {t x:T} (hk:t.kind≠1) (h:x∈t.kids):∀ a∈vT x,a∈vT t:=by
 cases t; rename_i k n s ks;have hk:k≠1:=hk;intro a f;rw [vT,ag hk];exact nQ.2 ⟨x,h,f⟩
def JS (t u:T):BJ->BJ->Prop
 | .done c,.done c'=>c'=c
 | .uni a b,.uni a' b'=>∃ G:T->Prop,(∀ σ:Int->T,sbT σ a=sbT σ b↔G (sbT σ t))/\∀ σ:Int->T,sbT σ a'=sbT σ b'↔G (sbT σ u)
 | .not a b,.not a' b'=>∃ G:T->Prop,(∀ σ:Int->T,sbT σ a=sbT σ b↔G (sbT σ t))/\∀ σ:Int->T,sbT σ a'=sbT σ b'↔G (sbT σ u)
 | _,_=>False
theorem kQ (f:Int->Int) (t:T):(mvT f t).kind=t.kind:=by cases t; rfl
theorem FW (f:Int->Int) (t:T):(mvT f t).name=t.name:=by cases t; rfl
theorem nW (f:Int->Int) (t:T):(mvT f t).kids.length=t.kids.length:=by rw [FX,Sy]
theorem Zv (f:Int->Int) {t:T} (h:t.kind≠1):(mvT f t).n=t.n:=by
 cases t; rename_i k n s ks;have:¬ k=1:=h;rw [mvT,ag this]; rfl
theorem Wa {f:Int->Int} {t:T} (g:t.kind≠1) (hl:t.kids.length=2):∃ G:T->Prop,(∀ σ:Int->T,sbT σ (kd t 0)=sbT σ (kd t 1)↔G (sbT σ t))/\∀ σ:Int->T,sbT σ (kd (mvT f t) 0)=sbT σ (kd (mvT f t) 1)↔G (sbT σ (mvT f t)):=by
 have a:(mvT f t).kind≠1:=by rw [kQ]; exact g
 have h:(mvT f t).kids.length=2:=(nW f t).trans hl;refine ⟨fun w=>kd w 0=kd w 1,fun σ=>?_,fun σ=>?_⟩
 ·show _↔kd (sbT σ t) 0=kd (sbT σ t) 1;rw [nH σ g (i:=0) (by omega),nH σ g (i:=1) (by omega)]
 ·show _↔kd (sbT σ (mvT f t)) 0=kd (sbT σ (mvT f t)) 1;rw [nH σ a (i:=0) (by omega),nH σ a (i:=1) (by omega)]
theorem Xj {N:Nat} {f:Int->Int} {t:T} (o:t.kind≠1) (l:bU t=true) (ho:okU N t) (hf:TI f [t]):JS t (mvT f t) (gA t) (gA (mvT f t)):=by
 have hB:=l;rw [bU,bM] at l;have l:=l.2;have a1:∀ m:Nat,((t.kids.length:Nat):Int)=m->t.kids.length=m:=fun m h=>by omega
 have q:(mvT f t).kind≠1:=by rw [kQ]; exact o
 have B:∀ a∈vT t,a∈vTL [t]:=fun a ha=>by rw [vTL,vTL,bV]; exact ha
 unfold gA;rw [FW];by_cases e1:t.name=jH
 ·rw [ai e1,ai e1]; exact rfl
 rw [ag e1,ag e1];by_cases e2:t.name=lN
 ·rw [ai e2,ai e2]; exact rfl
 rw [ag e2,ag e2];by_cases O:t.name=nEq
 ·rw [ai O,ai O];rw [O] at l;have:=iv (by decide +kernel) l;exact Wa o (by omega)
 rw [ag O,ag O];by_cases U:t.name=nNe
 ·rw [ai U,ai U];rw [U] at l;have:=iv (by decide +kernel) l;exact Wa o (by omega)
 rw [ag U,ag U];by_cases V:t.name=sM
 ·rw [ai V,ai V];rw [V] at l;have:=iv (by decide +kernel) l;have D:=PN (g:=t) (i:=0) (by omega);have G:=PN (g:=t) (i:=1) (by omega);show gO (eqT (kd (mvT f t) 0) (kd (mvT f t) 1))=gO (eqT (kd t 0) (kd t 1))
  congr 1
  rw [nZ,Ed,Ed,vD,vD];refine ⟨fun e=>Si _ _ (fM ho.kids _ D) (fM ho.kids _ G) (fun a ha b l e=>hf a (B a (UZ o D a ha)) b (B b (UZ o G b l)) e) e,fun e=>by rw [e]⟩
 rw [ag V,ag V];by_cases Y:t.name=nIs
 ·rw [ai Y,ai Y,vD f t 1,IP];rw [Y] at l;have:=iv (by decide +kernel) l;have a0:=nW f t;split
  ·exact rfl
  ·refine ⟨fun w=>kd w 0=LP (du (kd t 1)).1,fun σ=>?_,fun σ=>?_⟩
   ·show _↔kd (sbT σ t) 0=_;rw [nH σ o (i:=0) (by omega)]; exact Iff.rfl
   ·show _↔kd (sbT σ (mvT f t)) 0=_;rw [nH σ q (i:=0) (by omega)]; exact Iff.rfl
 rw [ag Y,ag Y];by_cases Z:t.name=GF
 ·rw [ai Z,ai Z,vD,vD,vD];rw [Z] at l;have a2:=St l;have a0:=nW f t;unfold Ig;rw [kQ,kQ,nW];by_cases r:(kd t 0).kind=1 ∨ (kd t 1).kind=1
  ·rw [ai r,ai r]; exact rfl
  rw [ag r,ag r];by_cases c2:(kd t 0).kind≠2 ∨ (kd t 1).kind≠3 ∨ (kd t 1).kids.length=0
  ·rw [ai c2,ai c2]; exact rfl
  rw [ag c2,ag c2,Zv f (fun h=>r (.inl h))];by_cases c3:(kd t 0).n<1 ∨ ((kd t 1).kids.length:Int)<(kd t 0).n
  ·rw [ai c3,ai c3]; exact rfl
  rw [ag c3,ag c3];have J:(kd t 1).kind≠1:=fun h=>r (.inr h);have M:(mvT f (kd t 1)).kind≠1:=by rw [kQ]; exact J
  have a3:=nW f (kd t 1);refine ⟨fun w=>kd w 2=kd (kd w 1) ((kd t 0).n.toNat - 1),fun σ=>?_,fun σ=>?_⟩
  ·show _↔kd (sbT σ t) 2=kd (kd (sbT σ t) 1) _;rw [nH σ o (i:=2) (by omega),nH σ o (i:=1) (by omega),nH σ J (by omega)]
  ·show _↔kd (sbT σ (mvT f t)) 2=kd (kd (sbT σ (mvT f t)) 1) _;rw [nH σ q (i:=2) (by omega),nH σ q (i:=1) (by omega),vD f t 2,vD f t 1,nH σ M (i:=(kd t 0).n.toNat - 1) (by omega),vD f (kd t 1)]
 rw [ag Z,ag Z];by_cases e8:di t.name gD=true
 ·rw [ai e8,ai e8,FX,Bx]; exact rfl
 rw [ag e8,ag e8,vD];unfold vQ;rw [kQ,nW];exact rfl
theorem XW {st h:aj} {t a b:T} {r:Bool} (o:Good st.length st) (q:okJ st.length (.one a b)) (B:Uni st (.one a b) r h) {G:T->Prop} (l:∀ σ:Int->T,sbT σ a=sbT σ b↔G (sbT σ t)) (os gs:List T) :
  ∀ v w,(r=true/\mU h os gs v w)↔∃ w0,G w0/\mU st os (t::gs) v (w0::w):=by
 intro v w;constructor
 ·rintro ⟨J,σ,i,m,g⟩;obtain ⟨M,N⟩:=((B.sem o q σ).1 J).1 i;exact ⟨sbT σ t,(l σ).1 N,σ,M,m,by rw [sbL,g]⟩
 ·rintro ⟨w0,D,σ,i,m,g⟩;rw [sbL,dK] at g;obtain ⟨rfl,g⟩:=g;have f:=B.sem o q σ;cases r with
  | false=>exact absurd ((l σ).2 D) (f.2 rfl i)
  | true=>exact ⟨rfl,σ,(f.1 rfl).2 ⟨i,(l σ).2 D⟩,m,g⟩
theorem SimN.tl {st a:aj} {t u:T} {os gs os' gs':List T} (l:SimN st os (t::gs) a os' (u::gs')):SimN st os gs a os' gs':=by
 have key:∀ {st:aj} {t:T} {os gs:List T} v w,mU st os gs v w↔∃ w0,mU st os (t::gs) v (w0::w):=by
  intro st t os gs v w;constructor
  ·rintro ⟨σ,g,i,f⟩;exact ⟨sbT σ t,σ,g,i,by rw [sbL,f]⟩
  ·rintro ⟨w0,σ,g,i,f⟩;rw [sbL,dK] at f;exact ⟨σ,g,i,f.2⟩
 intro v w;rw [key (t:=t),key (t:=u)];exact ⟨fun ⟨w0,h⟩=>⟨w0,(l _ _).1 h⟩,fun ⟨w0,h⟩=>⟨w0,(l _ _).2 h⟩⟩
theorem Y1 {st O o U:aj} {t u:T} {J J':BJ} {code i:Int} (hg:Good st.length st) (V:Good o.length o) (q:JS t u J J') (Y:WN st.length J) (l:WN o.length J') (B:BltJ st J code O) (f:BltJ o J' i U)
  {os gs os' gs':List T} (hS:SimN st os (t::gs) o os' (u::gs')):i=code/\(code=0->SimN O os gs U os' gs'):=by
 have cc:∀ b:Bool,gO b=0↔b=true:=fun b=>by cases b <;> simp [gO]
 have two:∀ {a b D M:T} {r m:Bool} {x Z:aj},okJ st.length (.one a b)->okJ o.length (.one D M)->Uni st (.one a b) r x->Uni o (.one D M) m Z->(∃ G:T->Prop,(∀ σ:Int->T,sbT σ a=sbT σ b↔G (sbT σ t))/\∀ σ:Int->T,sbT σ D=sbT σ M↔G (sbT σ u))->
   m=r/\(r=true->SimN x os gs Z os' gs'):=by
  intro a b D M r m x Z hj a0 N g ⟨G,k1,k2⟩;have q1:=XW hg hj N k1 os gs;have q2:=XW V a0 g k2 os' gs';have k3:∀ v w,(r=true/\mU x os gs v w)↔(m=true/\mU Z os' gs' v w):=by
   intro v w;rw [q1,q2];exact ⟨fun ⟨w0,h,h2⟩=>⟨w0,h,(hS _ _).1 h2⟩,fun ⟨w0,h,h2⟩=>⟨w0,h,(hS _ _).2 h2⟩⟩
  have d1:=(N.good hg hj).1;have d2:=(g.good V a0).1;have e:m=r:=by
   cases r with
   | true=>
    obtain ⟨v,w,h⟩:=un (by have:=d1.len; rw [this]; exact d1) os gs;exact ((k3 v w).1 ⟨rfl,h⟩).1
   | false=>
    cases m with
    | false=>rfl
    | true=>
     obtain ⟨v,w,h⟩:=un (by have:=d2.len; rw [this]; exact d2) os' gs';exact ((k3 v w).2 ⟨rfl,h⟩).1.symm
  refine ⟨e,fun hr v w=>?_⟩;have:=k3 v w;rw [e,hr] at this;simpa using this
 match J,J',q,Y,l,B,f with
 | .done c,.done c',q,_,_,B,f=>
  obtain ⟨rfl,rfl⟩:=B;obtain ⟨rfl,rfl⟩:=f;exact ⟨q,fun _=>hS.tl⟩
 | .uni a b,.uni D M,q,Y,l,B,f=>
  obtain ⟨r,N,rfl⟩:=B;obtain ⟨m,g,rfl⟩:=f;obtain ⟨e,h⟩:=two Y l N g q;exact ⟨by rw [e],fun hc=>h ((cc r).1 hc)⟩
 | .not a b,.not D M,q,Y,l,B,f=>
  obtain ⟨rfl,r,x,N,rfl⟩:=B;obtain ⟨rfl,m,Z,g,rfl⟩:=f;obtain ⟨e,h⟩:=two Y l N g q;exact ⟨by rw [e],fun _=>hS.tl⟩
theorem VM {st g h i:aj} {t:T} {f:Int->Int} {code a:Int} (B:Good st.length st) (l:okT st t) (m:bU t=true) (D:Blt st t code g) (o:Good h.length h) (G:okT h (mvT f t)) (hf:TI f [t]) (q:Blt h (mvT f t) a i)
  {os gs os' gs':List T} (J:SimN st os (t::gs) h os' (mvT f t::gs')):a=code/\(code=0->SimN g os gs i os' gs'):=by
 have M:t.kind≠1:=by have:=l.2; omega
 have r:bU (mvT f t)=true:=by rw [eI (t:=t) ⟨kQ f t,FW f t,nW f t⟩]; exact m
 exact Y1 B o (Xj M m l.1.1 hf) (yG m l.1) (yG r G.1) D q J
def jJ (c:C) (I:List T->List T->Prop) (v x:List T):Prop:=∃ w0 w,∃ τ:Int->T,I v (w0::w)/\sbT τ c.head=w0/\x=sbL τ c.body++w
theorem MA (σ:Int->T):jK σ stU:=by
 intro n u h;rw [stU,MN] at h;split at h <;> cases h
theorem FM {N:Nat} (σ τ:Int->T) {t:T} (a:okU N t):sbT (vp N σ τ) t=sbT σ t:=
 (pg (Lo σ τ) t a).symm
mutual
theorem QQ (κ:Int->T) (f:Int->Int):∀ t:T,sbT κ (mvT f t)=sbT (fun n=>κ (f n)) t
 | .mk k n s ks=>by
  rw [mvT,sbT,sbT,KW κ f ks];by_cases hk:k=1
  ·rw [ai hk,ai hk,ai hk]
  ·rw [ag hk,ag hk,ag hk]
theorem KW (κ:Int->T) (f:Int->Int):∀ ts:List T,sbL κ (mvL f ts)=sbL (fun n=>κ (f n)) ts
 | []=>rfl
 | t::ts=>by rw [mvL,sbL,sbL,QQ κ f t,KW κ f ts]
end
mutual
theorem VA {a:List Int} {σ ρ:Int->T} (h:∀ n∈a,σ n=ρ n):∀ t:T,inT a t->sbT σ t=sbT ρ t
 | .mk k n s ks,hi=>by
  rw [inT] at hi;rw [sbT,sbT,PC h ks hi.2];by_cases hk:k=1
  ·rw [ai hk,ai hk,h n (hi.1 hk)]
  ·rw [ag hk,ag hk]
theorem PC {a:List Int} {σ ρ:Int->T} (h:∀ n∈a,σ n=ρ n):∀ ts:List T,inL a ts->sbL σ ts=sbL ρ ts
 | [],_=>rfl
 | t::ts,hi=>by
  rw [inL] at hi;rw [sbL,sbL,VA h t hi.1,PC h ts hi.2]
end
theorem XK {N:Nat} {c:C} (l:okU N c.head) (o:bL N c.body) (h:T) (y:List T) :
  (∃ κ:Int->T,sbT κ (vd (bX c) c).head=h/\sbL κ (vd (bX c) c).body=y)↔∃ κ:Int->T,sbT κ c.head=h/\sbL κ c.body=y:=by
 obtain ⟨e,q,r,_⟩:=Xa l o;rw [e];constructor
 ·rintro ⟨κ,a,f⟩;exact ⟨fun n=>κ (ot (bX c) n),by rw [<- QQ]; exact a,by rw [<- KW]; exact f⟩
 ·rintro ⟨κ,a,f⟩;have g:∀ n∈bX c,(fun m:Int=>κ ((bX c).getD m.toNat 0)) (ot (bX c) n)=κ n:=by
   intro n hn;obtain ⟨i,e1,e2,_⟩:=Bk hn;show κ ((bX c).getD (ot (bX c) n).toNat 0)=κ n;rw [e2,cu,x0,e1];rfl
  refine ⟨fun m=>κ ((bX c).getD m.toNat 0),?_,?_⟩
  ·rw [QQ,VA g _ q]; exact a
  ·rw [KW,PC g _ r]; exact f
theorem Rl {c d:C} (hc:bt c=true) (hd:bt d=true) {b:T} {cs:List T} (G:c.body=b::cs) {o:Option (Option C)} (hR:RO c d o) :
  (o=none->¬ ∃ τ a:Int->T,sbT a d.head=sbT τ b)/\∀ r,o=some (some r)->∀ h y,(∃ κ:Int->T,sbT κ r.head=h/\sbL κ r.body=y)↔∃ τ a:Int->T,sbT τ c.head=h/\sbT a d.head=sbT τ b/\y=sbL a d.body++sbL τ cs:=by
 obtain ⟨r0,st,hu,f⟩:=hR;obtain ⟨c1,c2,c3⟩:=dU hc;obtain ⟨d1,d2,d3⟩:=dU hd;have hj:okJ 52 (.one (c.body.headD ⟨0,0,⟨#[]⟩,[]⟩) (bp 26 d.head)):=pe hc hd (gz (yE hc) (by decide)) (gz (yE hd) (by decide)) (by rw [G]; simp);have hb:okU 26 b:=c2 b (by rw [G]; exact aM ..);have a0:bL 26 cs:=gw fun t ht=>c2 t (by rw [G]; exact aR _ ht);have g:=fun σ=>hu.sem js hj σ;have M:∀ τ a:Int->T,sbT (vp 26 τ a) (bp 26 d.head)=sbT a d.head:=fun τ a=>Su (N:=26) τ a d1;have D:∀ σ:Int->T,Jeq σ (.one (c.body.headD ⟨0,0,⟨#[]⟩,[]⟩) (bp 26 d.head))↔sbT σ b=sbT σ (bp 26 d.head):=fun σ=>by rw [G]; exact Iff.rfl
 constructor
 ·rintro rfl ⟨τ,a,e⟩;rcases f with ⟨f,_⟩|⟨_,us,_,⟨_,f⟩|⟨_,f⟩⟩
  ·refine (g (vp 26 τ a)).2 f (MA _) ((D _).2 ?_);rw [FM τ a hb,M,e]
  ·cases f
  ·cases f
 ·rintro r rfl h y;rcases f with ⟨_,f⟩|⟨f,us,Y,⟨_,i⟩|⟨a2,i⟩⟩
  ·cases f
  ·cases i
  ·rw [aY,aY] at i;subst i;have O:=(hu.good js hj).1;have hl:=O.len;have m:Good st.length st:=by rw [hl]; exact O
   have U:bL st.length (iN c d):=by rw [hl]; exact sD hc hd
   obtain ⟨Z,l⟩:=fj m Y U;have a1:us≠[]:=fun e=>by rw [e] at l; simp [iN] at l
   obtain ⟨u,vs,rfl⟩:=List.exists_cons_of_ne_nil a1;rw [bL] at Z;have e1:(∃ κ:Int->T,sbT κ u=h/\sbL κ vs=y)↔∃ κ,sbL κ (u::vs)=h::y:=by
    constructor
    ·rintro ⟨κ,J,B⟩; exact ⟨κ,by rw [sbL,J,B]⟩
    ·rintro ⟨κ,k⟩;rw [sbL,dK] at k;exact ⟨κ,k.1,k.2⟩
   have e2:(∃ κ:Int->T,sbT κ (vd (bX (ofL (u::vs))) (ofL (u::vs))).head=h/\sbL κ (vd (bX (ofL (u::vs))) (ofL (u::vs))).body=y)↔∃ κ:Int->T,sbT κ u=h/\sbL κ vs=y:=
    XK (c:=ofL (u::vs)) Z.1 Z.2 h y
   rw [e2,e1,<- Fr m U Y];have V:∀ σ:Int->T,sbL σ (iN c d)=sbT σ c.head::(sbL (fun n=>σ (n+26)) d.body++sbL σ cs):=fun σ=>by
    rw [iN,G,sbL,qP,uJ]; rfl
   constructor
   ·rintro ⟨σ,J,B⟩;rw [V,dK] at B;obtain ⟨_,q⟩:=((g σ).1 f).1 J;have q:=(D σ).1 q;refine ⟨σ,fun n=>σ (n+26),B.1,?_,B.2.symm⟩;rw [q];exact (uK σ 26 d.head).symm
   ·rintro ⟨τ,a,J,B,rfl⟩;refine ⟨vp 26 τ a,((g _).1 f).2 ⟨MA _,(D _).2 ?_⟩,?_⟩
    ·rw [FM τ a hb,M,B]
    ·rw [V,FM τ a c1,J]
     congr 2
     ·refine (ki (N:=26) (fun n h0 _=>?_) d.body (gw d2)).symm;show a n=vp 26 τ a (n+26);rw [vp,ag (by omega)]
      congr 1
      omega
     ·exact (ki (Lo τ a) cs a0).symm
end
section
open Go Go.RowKit
abbrev Ist:=List T->List T->Prop
def Rep (os:List T) (st:aj) (ts:List T) (I:Ist):Prop:=bL st.length os/\∀ v w,mU st os ts v w↔I v w
def EI (I:Ist) (c:C):Prop:=∃ v x,jJ c I v x
theorem Jf {N M:Nat} (h:N<=M) {ts:List T} (a:bL N ts):bL M ts:=gw fun t f=>gN h t (fM a t f)
theorem Rep.res {os:List T} {st:aj} {g t:T} {gs:List T} {I:Ist} (h:Rep os st (g::gs) I) (a:Good st.length st) (f:okU st.length g) (i:Res st (.one g t)):Rep os st (t::gs) I:=
 ⟨h.1,fun v w=>(iq a f i os gs v w).symm.trans (h.2 v w)⟩
theorem RF {os:List T} {b a:aj} {t:T} {gs:List T} {I:Ist} {cl:C} {m:Nat} {r:Bool} (J:Good b.length b) (o:okT b t) (q:bL b.length gs) (hR:Rep os b (t::gs) I) (hc:ie cl) (i:b.length<=m)
  (M:Uni (g26 (bI b m)) (.one t (bp m cl.head)) r a):(r=false->¬ EI I cl)/\(r=true->EI I cl/\Rep os a (cl.body.map (bp m)++gs) (jJ cl I)):=by
 have k:=Kh J o hc i M hR.1 q;have D:∀ v x,(r=true/\mU a os (cl.body.map (bp m)++gs) v x)↔jJ cl I v x:=by
  intro v x;rw [k];exact ⟨fun ⟨w0,w,τ,h,B⟩=>⟨w0,w,τ,(hR.2 _ _).1 h,B⟩,fun ⟨w0,w,τ,h,B⟩=>⟨w0,w,τ,(hR.2 _ _).2 h,B⟩⟩
 have N:(g26 (bI b m)).length=m+26:=by rw [kD,ce i]
 have G:Good (m+26) (g26 (bI b m)):=(J.to i).grow 26;have O:okJ (m+26) (.one t (bp m cl.head)):=by
  have:=Nh (st:=bI b m) (g:=t) (cl:=cl) (by rw [ce i]; exact ⟨gN i _ o.1.1,o.1.2⟩) hc;rw [ce i] at this;exact this
 have f:=(M.good G O).1;have hl:=f.len;refine ⟨fun l ⟨v,x,h⟩=>?_,fun l=>⟨?_,?_⟩⟩
 ·have:=((D v x).2 h).1;rw [l] at this;cases this
 ·obtain ⟨v,x,h⟩:=un (st:=a) (by rw [hl]; exact f) os (cl.body.map (bp m)++gs);exact ⟨v,x,(D v x).1 ⟨l,h⟩⟩
 ·refine ⟨Jf (by omega) hR.1,fun v w=>?_⟩;rw [<- D,l];simp
theorem TryI.sem {p:List C} (O:∀ cl∈p,ie cl) {os:List T} {b:aj} {t:T} {gs:List T} {I:Ist} (U:Good b.length b) (V:okT b t) (D:bL b.length gs) (hR:Rep os b (t::gs) I)
  {l:List Int} {st:aj} {o:Option HI} {n:Nat} (h:TryI p t l st o n):∀ m,b.length<=m->st=bI b m->
  (o=none->∀ i∈l,∀ cl,p[i.toNat]?=some cl->¬ EI I cl)/\
  ∀ r,o=some r->∃ A,l=A++(r.i:Int)::r.l/\p[r.i]?=some r.cl/\(∀ i∈A,∀ cl,p[i.toNat]?=some cl->¬ EI I cl)/\EI I r.cl/\Rep os r.st (r.cl.body.map (bp r.by_)++gs) (jJ r.cl I):=by
 induction h with
 | nil=>intro m _ _; exact ⟨fun _ i g=>(by cases g),fun r h=>(by cases h)⟩
 | @hit i l cl st N g G=>
  intro m B J;subst J;rw [ce B] at G ⊢;obtain ⟨Z,k2⟩:=(RF U V D hR (O _ (cz g)) B G).2 rfl;refine ⟨fun h=>(by cases h),fun r h=>?_⟩;cases h;exact ⟨[],rfl,g,fun i h=>(by cases h),Z,k2⟩
 | @miss i l cl st N o n g G _ ih=>
  intro m B J;subst J;rw [ce B] at G;have k:=(RF U V D hR (O _ (cz g)) B G).1 rfl;have f:∀ q,p[(i:Int).toNat]?=some q->¬ EI I q:=fun q Y=>by
   rw [cu,g] at Y;cases Y;exact k
  obtain ⟨q1,q2⟩:=ih (m+26) (by omega) (by rw [qJ B]);refine ⟨fun h M a=>?_,fun r h=>?_⟩
  ·rcases bY.1 a with rfl|a
   ·exact f
   ·exact q1 h M a
  ·obtain ⟨A,a1,a2,a3,a4,a5⟩:=q2 r h;refine ⟨(i:Int)::A,by rw [a1]; rfl,a2,fun M a=>?_,a4,a5⟩;rcases bY.1 a with rfl|a
   ·exact f
   ·exact a3 M a
theorem xw {α:Type} {E:α->Prop}:∀ {A A':List α} {x f:α} {R R':List α},A++x::R=A'++f::R'->(∀ a∈A,¬ E a)->E x->(∀ a∈A',¬ E a)->E f->A=A'/\x=f/\R=R'
 | [],[],_,_,_,_,e,_,_,_,_=>by
  simp only [fZ,dK] at e;exact ⟨rfl,e.1,e.2⟩
 | [],a::A',_,_,_,_,e,_,hx,hA',_=>by
  simp only [fZ,dS,dK] at e;exact absurd (e.1 ▸ hx) (hA' a (aM ..))
 | a::A,[],_,_,_,_,e,hA,_,_,hx'=>by
  simp only [fZ,dS,dK] at e;exact absurd (e.1 ▸ hx') (hA a (aM ..))
 | a::A,a'::A',_,_,_,_,e,hA,hx,hA',hx'=>by
  simp only [dS,dK] at e;obtain ⟨h,i,l⟩:=xw e.2 (fun y g=>hA y (aR _ g)) hx (fun y g=>hA' y (aR _ g)) hx';exact ⟨by rw [e.1,h],i,l⟩
structure H5 (p u:List C) (j:Int) (c:C) (b:T) (cs:List T) (ks:List Int) (ex exm:Int->List C):Prop where
 pj:p[j.toNat]?=some c
 j0:0<=j
 body:c.body=b::cs
 ncs:∀ t∈cs,ncT t
 b3:b.kind=3
 bc:ez b=false
 bb:bU b=false
 kf:∀ t,sameHd b t->eY p t=ks
 ne:ks≠[]
 exo:∀ i cl,0<=i->i≠j->p[i.toNat]?=some cl->ex i=[cl]
 exj:ex j=ks.flatMap exm
 exk:∀ k∈ks,∃ d,p[k.toNat]?=some d/\(∀ t∈d.body,ncT t)/\((exm k=[]/\∀ I v x,¬ jJ d (jJ c I) v x) ∨
  ∃ r,exm k=[r]/\(∀ t∈r.body,ncT t)/\r.body.length=d.body.length+cs.length/\∀ I v x,jJ r I v x↔jJ d (jJ c I) v x)
 forU:∀ t,t.kind=3->pk u (eY u t)=(eY p t).flatMap ex
 okp:∀ cl∈p,ie cl
 oku:∀ cl∈u,ie cl
 p3:∀ cl∈p,∀ t∈cl.body,t.kind=3
 u3:∀ cl∈u,∀ t∈cl.body,t.kind=3
abbrev Lvs:=List (Nat × Nat)
def aaJ (lv:Lvs) (g g':GI):Prop:=(ncT g.t/\ncT g'.t) ∨ (g.cut.toNat,g'.cut.toNat)∈lv
inductive GoalsR (lv:Lvs):List GI->List GI->Prop
 | nil:GoalsR lv [] []
 | cons {g g':GI} {gs gs':List GI}:aaJ lv g g'->GoalsR lv gs gs'->GoalsR lv (g::gs) (g'::gs')
theorem GoalsR.mono {f a:Lvs} {gs gs':List GI} (h:GoalsR f gs gs') (k:∀ g∈gs,∀ x,(g.cut.toNat,x)∈f->(g.cut.toNat,x)∈a):GoalsR a gs gs':=by
 induction h with
 | nil=>exact .nil
 | @cons g o gs gs' l _ m=>exact .cons (l.imp id (k g (aM ..) _)) (m fun x i=>k x (aR _ i))
theorem GoalsR.len {a:Lvs} {gs gs':List GI} (h:GoalsR a gs gs'):gs'.length=gs.length:=by
 induction h with
 | nil=>rfl
 | cons _ _ f=>rw [bq,bq,f]
theorem GoalsR.app {f:Lvs} {a g b i:List GI} (h:GoalsR f a g) (l:GoalsR f b i):GoalsR f (a++b) (g++i):=by
 induction h with
 | nil=>exact l
 | cons m _ o=>exact .cons m o
theorem GoalsR.nc {l:Lvs}:∀ {a f:List GI},f.length=a.length->(∀ g∈a,ncT g.t)->(∀ g∈f,ncT g.t)->GoalsR l a f
 | [],[],_,_,_=>.nil
 | [],_::_,h,_,_=>by simp at h
 | _::_,[],h,_,_=>by simp at h
 | g::a,g'::f,h,h1,h2=>.cons (.inl ⟨h1 g (aM ..),h2 g' (aM ..)⟩) (.nc (by simpa using h) (fun x i=>h1 x (aR _ i)) fun x i=>h2 x (aR _ i))
theorem GoalsR.lev {l:Lvs}:∀ {a f:List GI},f.length=a.length->(∀ g∈a,∀ i∈f,(g.cut.toNat,i.cut.toNat)∈l)->GoalsR l a f
 | [],[],_,_=>.nil
 | [],_::_,h,_=>by simp at h
 | _::_,[],h,_=>by simp at h
 | g::a,i::f,h,h1=>.cons (.inr (h1 g (aM ..) i (aM ..))) (.lev (by simpa using h) fun x m y o=>h1 x (aR _ m) y (aR _ o))
section
variable {p u:List C} {j:Int} {c:C} {b:T} {cs:List T} {ks:List Int} {ex exm:Int->List C} {os:List T}
def GX (os:List T) (gx:List CI) (lx:List Int) (rest:List GI) (I:Ist):Prop:=(gx=[]/\lx=[]) ∨ ∃ x:CI,gx=[x]/\x.left=lx/\x.rest=rest/\Rep os x.binds (x.goal::gt x.rest) I
def GM (c:C) (cs:List T) (ks:List Int) (os:List T) (gm:List CI) (lm:List Int) (rest:List GI) (I:Ist):Prop:=(gm=[]/\lm=[]) ∨
 ∃ (m:CI) (csg:List GI),gm=[m]/\m.left=lm/\m.rest=csg++rest/\csg.length=cs.length/\(∀ g∈csg,ncT g.t)/\(∀ k∈lm,k∈ks)/\Rep os m.binds (m.goal::gt m.rest) (jJ c I)
def UP (u:List C) (os:List T) (lv:Lvs) (L:List C) (rest rest':List GI) (I:Ist) (gu:List CI):Prop:=(L=[]/\gu=[]) ∨
 (L≠[]/\GoalsR lv rest rest'/\∃ x:CI,gu=[x]/\pk u x.left=L/\x.rest=rest'/\Rep os x.binds (x.goal::gt x.rest) I)
structure Yo (u:List C) (c:C) (cs:List T) (ks:List Int) (ex exm:Int->List C) (os:List T) (lv:Lvs) (gx gm gu:List CI) (lx lm:List Int) (rest rest':List GI) (I:Ist):Prop where
 x:GX os gx lx rest I
 m:GM c cs ks os gm lm rest I
 u:UP u os lv (lm.flatMap exm++lx.flatMap ex) rest rest' I gu
 ne:gx++gm≠[]
inductive StkR (u:List C) (c:C) (cs:List T) (ks:List Int) (ex exm:Int->List C) (os:List T):List CI->List CI->Lvs->Prop
 | nil:StkR u c cs ks ex exm os [] [] [(0,0)]
 | snoc {a a' gx gm gu:List CI} {lv:Lvs} {lx lm:List Int} {rest rest':List GI} {I:Ist}:StkR u c cs ks ex exm os a a' lv->Yo u c cs ks ex exm os lv gx gm gu lx lm rest rest' I->
   StkR u c cs ks ex exm os (a++(gx++gm)) (a'++gu) (lv++[((a++(gx++gm)).length,(a'++gu).length)])
theorem StkR.top {a f:List CI} {g:Lvs} (h:StkR u c cs ks ex exm os a f g):(a.length,f.length)∈g:=by
 cases h with
 | nil=>exact bK.2 rfl
 | snoc _ _=>exact fb _ (bK.2 rfl)
theorem StkR.le {a g:List CI} {i:Lvs} (h:StkR u c cs ks ex exm os a g i):∀ x∈i,x.1<=a.length/\x.2<=g.length:=by
 induction h with
 | nil=>intro x f; rw [bK.1 f]; exact ⟨aS _,aS _⟩
 | @snoc a g gx q m i r t rest l I _ _ o=>
  intro x f;rcases bF.1 f with f|f
  ·have:=o x f;rw [bA,bA (bs:=m)];omega
  ·rw [bK.1 f]; exact ⟨aS _,aS _⟩
theorem StkR.take {a q:List CI} {o:Lvs} (h:StkR u c cs ks ex exm os a q o):∀ m n,(m,n)∈o->∃ i,StkR u c cs ks ex exm os (a.take m) (q.take n) i/\∀ x∈o,x.1<=m->x∈i:=by
 induction h with
 | nil=>
  intro m n f;obtain ⟨rfl,rfl⟩:=Prod.mk.inj (bK.1 f);exact ⟨_,.nil,fun x f _=>f⟩
 | @snoc a q gx N O o U V rest t I B D M=>
  intro m n f;rcases bF.1 f with f|f
  ·obtain ⟨i,G,J⟩:=M m n f;have l:=B.le _ f;refine ⟨i,by rw [Gf l.1,Gf l.2]; exact G,fun x g r=>?_⟩;rcases bF.1 g with g|g
   ·exact J x g r
   ·rw [bK.1 g,bA] at r;have:=UM.2 D.ne;simp only at r l;omega
  ·obtain ⟨rfl,rfl⟩:=Prod.mk.inj (bK.1 f);rw [d4,d4];exact ⟨_,.snoc B D,fun x f _=>f⟩
end
end
section
open Go Go.RowKit
theorem Rep.grow {os:List T} {st:aj} {ts:List T} {I:Ist} (h:Rep os st ts I) (n:Nat):Rep os (bI st n) ts I:=by
 refine ⟨Jf (by unfold bI; rw [bA]; exact sK ..) h.1,fun v w=>?_⟩;rw [<- h.2 v w];have e:∀ σ,jK σ (bI st n)↔jK σ st:=fun σ=>Bi σ st _;exact ⟨fun ⟨σ,a,f⟩=>⟨σ,(e σ).1 a,f⟩,fun ⟨σ,a,f⟩=>⟨σ,(e σ).2 a,f⟩⟩
theorem Rep.congr {os:List T} {st:aj} {ts:List T} {I J:Ist} (h:Rep os st ts I) (e:∀ v w,I v w↔J v w):Rep os st ts J:=⟨h.1,fun v w=>(h.2 v w).trans (e v w)⟩
def K3 (a:List CI):Prop:=∀ c∈a,c.goal.kind=3/\∀ g∈c.rest,g.t.kind=3
def lj (p:List C) (a:List CI) (o:Option SI):Prop:=∃ n ns,BackI p a n ns o/\okCs p.length n ns.length a/\K3 a
def Alt (p:List C) (os:List T) (I:Ist) (l:List Int) (t:T) (rest:List GI) (a:List CI) (o:Option SI):Prop:=
 (∃ (r:HI) (A:List Int) (ns:List NI) (at_:Int) (b0:aj),o=some (gC a ns t at_ rest b0 r)/\l=A++(r.i:Int)::r.l/\p[r.i]?=some r.cl/\(∀ i∈A,∀ cl,p[i.toNat]?=some cl->¬ EI I cl)/\EI I r.cl/\
  Rep os r.st (r.cl.body.map (bp r.by_)++gt rest) (jJ r.cl I)/\Rep os b0 (t::gt rest) I) ∨
 ((∀ i∈l,∀ cl,p[i.toNat]?=some cl->¬ EI I cl)/\lj p a o)
def Pend (u:List C) (os:List T) (I:Ist) (L:List C) (t:T) (rest:List GI) (a:List CI) (o:Option SI):Prop:=
 (∃ (r:HI) (A:List C) (ns:List NI) (at_:Int) (b0:aj),o=some (gC a ns t at_ rest b0 r)/\L=A++r.cl::pk u r.l/\(r.l≠[]->pk u r.l≠[])/\(∀ cl∈A,¬ EI I cl)/\EI I r.cl/\
  Rep os r.st (r.cl.body.map (bp r.by_)++gt rest) (jJ r.cl I)/\Rep os b0 (t::gt rest) I) ∨
 ((∀ cl∈L,¬ EI I cl)/\lj u a o)
theorem Y2 (p:List C) (a b:List Int):pk p (a++b)=pk p a++pk p b:=List.filterMap_append ..
theorem Rx {p:List C} {i:Nat} {cl:C} (h:p[i]?=some cl) (l:List Int):pk p ((i:Int)::l)=cl::pk p l:=by
 rw [pk,UA,cu,h]; rfl
theorem ZB {p:List C} {l:List Int} (h:∀ i∈l,0<=i/\i<p.length) (hl:l≠[]):pk p l≠[]:=by
 obtain ⟨i,a,rfl⟩:=List.exists_cons_of_ne_nil hl;obtain ⟨f,g⟩:=h i (aM ..);obtain ⟨n,rfl⟩:∃ n:Nat,i=n:=⟨i.toNat,by omega⟩
 have hn:n<p.length:=by omega
 rw [Rx (ew hn)];exact List.cons_ne_nil _ _
theorem VX {p:List C} {l:List Int} {cl:C} (h:cl∈pk p l):∃ i∈l,p[i.toNat]?=some cl:=List.mem_filterMap.1 h
theorem Alt.pend {u:List C} {os:List T} {I:Ist} {l:List Int} {t:T} {rest:List GI} {a:List CI} {o:Option SI} (hl:∀ i∈l,0<=i/\i<u.length) (h:Alt u os I l t rest a o):Pend u os I (pk u l) t rest a o:=by
 rcases h with ⟨r,A,ns,at_,B,q,rfl,D,G,J,M,N⟩|⟨q,O⟩
 ·refine .inl ⟨r,pk u A,ns,at_,B,q,by rw [Y2,Rx D],fun m=>ZB (fun i g=>hl i (by simp [g])) m,fun cl f=>?_,J,M,N⟩;obtain ⟨i,g,e⟩:=VX f;exact G i g cl e
 ·refine .inr ⟨fun cl f=>?_,O⟩;obtain ⟨i,g,e⟩:=VX f;exact q i g cl e
theorem Pend.drop {u:List C} {os:List T} {I:Ist} {t:T} {rest:List GI} {a:List CI} {o:Option SI}:∀ {A L:List C},Pend u os I (A++L) t rest a o->(∀ cl∈A,¬ EI I cl)->Pend u os I L t rest a o
 | [],_,h,_=>h
 | x::A,L,h,hA=>by
  refine Pend.drop (A:=A) ?_ fun cl f=>hA cl (aR _ f);rcases h with ⟨r,B,ns,at_,m,l,g,i⟩|⟨l,g⟩
  ·match B,g,i with
   | [],g,i=>
    simp only [dS,fZ,dK] at g;exact absurd i.2.2.1 (g.1 ▸ hA x (aM ..))
   | y::B,g,i=>
    simp only [dS,dK] at g;exact .inl ⟨r,B,ns,at_,m,l,g.2,i.1,fun cl f=>i.2.1 cl (aR _ f),i.2.2⟩
  ·exact .inr ⟨fun cl f=>l cl (aR _ f),g⟩
theorem Rr {N:Nat} {gs:List GI} (h:∀ g∈gs,okU N g.t):bL N (gt gs):=gw fun t a=>by
 obtain ⟨g,f,rfl⟩:=dp.1 a;exact h g f
theorem MR {p:List C} {a:List CI} {n:Nat} {ns:List NI} {o:Option SI} (h:BackI p a n ns o):a=[]->o=none:=by
 cases h with
 | nil=>exact fun _=>rfl
 | hit=>intro h; simp at h
 | miss=>intro h; simp at h
theorem Tb {p:List C} {l:List CI} {n:Nat} {ns:List NI} {o:Option SI} (h:BackI p l n ns o):∀ {a:List CI} {x:CI},l=a++[x]->∃ g m,TryI p x.goal x.left (bI x.binds n) g m/\
  ((∃ r,g=some r/\o=some (gC a (ns.take x.taken) x.goal x.node x.rest (bI x.binds n) r)) ∨ (g=none/\BackI p a m (ns.take x.taken) o)):=by
 cases h with
 | nil=>intro a x h; simp at h
 | hit i=>
  intro a x h;obtain ⟨rfl,f⟩:=Om h rfl;simp only [dK,gL] at f;subst f;exact ⟨_,_,i,.inl ⟨_,rfl,rfl⟩⟩
 | miss i q=>
  intro a x h;obtain ⟨rfl,f⟩:=Om h rfl;simp only [dK,gL] at f;subst f;exact ⟨_,_,i,.inr ⟨rfl,q⟩⟩
theorem F2 {p:List C} (D:∀ cl∈p,ie cl) {os:List T} {a:List CI} {x:CI} {o:Option SI} {I:Ist} (h:lj p (a++[x]) o) (hR:Rep os x.binds (x.goal::gt x.rest) I):Alt p os I x.left x.goal x.rest a o/\(∀ i∈x.left,0<=i/\i<p.length)/\x.goal.kind=3:=by
 obtain ⟨n,ns,V,l,G⟩:=h;obtain ⟨Y,f,hn,hk⟩:=l.last;obtain ⟨J,q2⟩:=G x (by simp);obtain ⟨oT,m,M,Z⟩:=Tb V rfl;have q:bL x.binds.length (gt x.rest):=Rr fun g U=>(f.rest g U).1.1.1.1;have N:=M.sem D f.good ⟨f.goal.1,J⟩ q hR n hn rfl;refine ⟨?_,f.left,J⟩;rcases Z with ⟨r,rfl,rfl⟩|⟨rfl,B⟩
 ·obtain ⟨A,a1,a2,a3,a4,a5⟩:=N.2 r rfl;exact .inl ⟨r,A,_,_,_,rfl,a1,a2,a3,a4,a5,hR.grow n⟩
 ·refine .inr ⟨N.1 rfl,m,_,B,?_,fun c hc=>G c (cZ _ hc)⟩;obtain ⟨g1,g2,g3,g4⟩:=f.grow hn;have t:(ns.take x.taken).length=x.taken:=by rw [cM]; omega
  have O:=(M.ok D g1 g2 g3).1;rw [ce hn] at O;rw [t];exact Y.mono O (aS _)
section
variable {p u:List C} {j:Int} {c:C} {b:T} {cs:List T} {ks:List Int} {ex exm:Int->List C} {os:List T}
def B5 (u:List C) (c:C) (cs:List T) (ks:List Int) (ex exm:Int->List C) (os:List T) (s s':SI):Prop:=
 ∃ lv J,StkR u c cs ks ex exm os s.chs s'.chs lv/\GoalsR lv s.goals s'.goals/\Rep os s.st (gt s.goals) J/\Rep os s'.st (gt s'.goals) J
structure aa2 (u:List C) (c:C) (b:T) (cs:List T) (ks:List Int) (ex exm:Int->List C) (os:List T) (s:SI) (o':Option SI) (a gx a':List CI) (lx:List Int) (I:Ist) (t':T) (rest rest':List GI) (lv:Lvs) (bg:GI) (csg:List GI):Prop where
 chs:s.chs=a++gx
 goals:s.goals=bg::(csg++rest)
 hd:sameHd b bg.t
 len:csg.length=cs.length
 nc:∀ g∈csg,ncT g.t
 rep:Rep os s.st (gt s.goals) (jJ c I)
 gx:GX os gx lx rest I
 pend:Pend u os I (ks.flatMap exm++lx.flatMap ex) t' rest' a' o'
 stk:StkR u c cs ks ex exm os a a' lv
 gs:ks.flatMap exm++lx.flatMap ex≠[]->GoalsR lv rest rest'
def Yz (u:List C) (c:C) (b:T) (cs:List T) (ks:List Int) (ex exm:Int->List C) (os:List T) (s:SI) (o':Option SI):Prop:=
 ∃ a gx a' lx I t' rest rest' lv bg csg,aa2 u c b cs ks ex exm os s o' a gx a' lx I t' rest rest' lv bg csg
def QN (u:List C) (c:C) (b:T) (cs:List T) (ks:List Int) (ex exm:Int->List C) (os:List T) (o o':Option SI):Prop:=
 (o=none/\o'=none) ∨ (∃ s s',o=some s/\o'=some s'/\B5 u c cs ks ex exm os s s') ∨ ∃ s,o=some s/\Yz u c b cs ks ex exm os s o'
theorem Yb (H:H5 p u j c b cs ks ex exm) {I:Ist} {A:List Int} (q:∀ i∈A,0<=i/\i<p.length) (h:∀ i∈A,∀ cl,p[i.toNat]?=some cl->¬ EI I cl):∀ cl∈A.flatMap ex,¬ EI I cl:=by
 intro cl f;obtain ⟨i,l,a⟩:=Eo.1 f;obtain ⟨t,G⟩:=q i l;have m:i.toNat<p.length:=by omega
 by_cases e:i=j
 ·subst e;rw [H.exj] at a;obtain ⟨k,hk,a⟩:=Eo.1 a;obtain ⟨d,_,_,hd|⟨r,B,_,_,D⟩⟩:=H.exk k hk
  ·rw [hd.1] at a; cases a
  ·rw [B] at a;rw [bK.1 a];rintro ⟨v,x,g⟩;obtain ⟨w0,w,τ,g,_⟩:=(D I v x).1 g;exact h i l c H.pj ⟨_,_,g⟩
 ·have o:=ew m;rw [H.exo i _ t e o] at a;rw [bK.1 a];exact h i l _ o
theorem VS (H:H5 p u j c b cs ks ex exm) {I:Ist} {A:List Int} (l:∀ k∈A,k∈ks) (h:∀ i∈A,∀ cl,p[i.toNat]?=some cl->¬ EI (jJ c I) cl):∀ cl∈A.flatMap exm,¬ EI I cl:=by
 intro cl f;obtain ⟨k,hk,a⟩:=Eo.1 f;obtain ⟨d,g,_,hd|⟨r,o,_,_,q⟩⟩:=H.exk k (l k hk)
 ·rw [hd.1] at a; cases a
 ·rw [o] at a;rw [bK.1 a];rintro ⟨v,x,m⟩;exact h k hk d g ⟨v,x,(q I v x).1 m⟩
theorem Ug {f:Lvs} {cl:C} {m i:Int} {k k':Nat} (h:(k,k')∈f) (x l:Int):GoalsR f (cl.body.map fun t=>(⟨bp m t,(k:Int),x⟩:GI)) (cl.body.map fun t=>(⟨bp i t,(k':Int),l⟩:GI)):=by
 refine .lev (by simp) fun g o q a=>?_;obtain ⟨t,_,rfl⟩:=dp.1 o;obtain ⟨r,_,rfl⟩:=dp.1 a;simpa using h
theorem Ss {cl:C} {m:Int} (h:∀ t∈cl.body,ncT t) (k x:Int):∀ g∈cl.body.map (fun t=>(⟨bp m t,k,x⟩:GI)),ncT g.t:=by
 intro g a;obtain ⟨t,f,rfl⟩:=dp.1 a;exact ncT_hd.shift (h t f) m
theorem NT (H:H5 p u j c b cs ks ex exm) {I:Ist} {l:List Int} {t t':T} {rest f:List GI} {a G:List CI} {o o':Option SI} {D:Lvs} (hv:∀ i∈l,0<=i/\i<p.length) (hA:Alt p os I l t rest a o)
  (N:Pend u os I (l.flatMap ex) t' f G o') (hS:StkR u c cs ks ex exm os a G D) (U:l.flatMap ex≠[]->GoalsR D rest f):QN u c b cs ks ex exm os o o' ∨ (lj p a o/\lj u G o'):=by
 rcases hA with ⟨r,A,ns,at_,b0,rfl,rfl,h3,h4,h5,h6,h7⟩|⟨h1,h2⟩
 ·have a7:∀ i∈A,0<=i/\i<p.length:=fun i hi=>hv i (cZ _ hi);have q:=Yb H a7 h4;rw [Q4,rQ] at N U;by_cases e:(r.i:Int)=j
  ·have Y:r.cl=c:=by
    have:=H.pj;rw [<- e,cu,h3] at this;exact uH this
   rw [e,H.exj] at N U;refine .inl (.inr (.inr ⟨_,rfl,a,(if r.l=[] then [] else [(⟨t,at_,rest,r.l,b0,ns.length⟩:CI)]),G,r.l,I,t',rest,f,D,⟨bp r.by_ b,a.length,at_⟩,cs.map (fun t=>⟨bp r.by_ t,a.length,at_⟩),?_⟩));refine ⟨rfl,?_,sameHd.shift _ _ (by rw [H.b3]; decide),by simp,?_,?_,?_,N.drop q,hS,fun J=>U fun e0=>J (List.append_eq_nil_iff.1 e0).2⟩
   ·show fy r.cl r.by_ a.length at_ rest=_;unfold fy;rw [Y,H.body,lr,dS]
   ·intro g hg;obtain ⟨t0,a6,rfl⟩:=dp.1 hg;exact ncT_hd.shift (H.ncs t0 a6) _
   ·show Rep os r.st (gt (fy r.cl r.by_ a.length at_ rest)) (jJ c I);rw [uR,<- Y];exact h6
   ·by_cases hl:r.l=[]
    ·exact .inl ⟨by rw [ai hl],hl⟩
    ·exact .inr ⟨_,by rw [ag hl],rfl,rfl,h7⟩
  ·have a8:=hv r.i (by simp);have a9:=H.exo r.i r.cl a8.1 e (by rw [cu]; exact h3);rw [a9] at N U;have J:List.flatMap ex A++([r.cl]++List.flatMap ex r.l)≠[]:=by simp
   have Z:=U J;rcases N with ⟨m,A',a4,B,a5,rfl,q2,q3,q4,q5,q6,q7⟩|⟨q1,_⟩
   ·obtain ⟨_,e2,O⟩:=xw (E:=EI I) q2 q h5 q4 q5;refine .inl (.inr (.inl ⟨_,_,rfl,rfl,?_⟩));have a0:∀ M:Lvs,(∀ x∈D,x∈M)->GoalsR M (fy r.cl r.by_ a.length at_ rest) (fy m.cl m.by_ G.length B f):=fun M hs=>by
     unfold fy;rw [<- e2];exact (Ug (hs _ hS.top) _ _).app (Z.mono fun g _ x V=>hs _ V)
    have a1:Rep os r.st (gt (fy r.cl r.by_ a.length at_ rest)) (jJ r.cl I):=by rw [uR]; exact h6
    have a2:Rep os m.st (gt (fy m.cl m.by_ G.length B f)) (jJ r.cl I):=by rw [uR,e2]; exact q6
    by_cases hl:r.l=[]
    ·have h:m.l=[]:=by
      refine V0 fun hc=>q3 hc ?_;rw [<- O,hl]; rfl
     refine ⟨D,_,?_,a0 D (fun x V=>V),a1,a2⟩;show StkR u c cs ks ex exm os (a++(if r.l=[] then [] else _)) (G++(if m.l=[] then [] else _)) D;rw [ai hl,ai h,bV,bV];exact hS
    ·have b1:Yo u c cs ks ex exm os D [(⟨t,at_,rest,r.l,b0,ns.length⟩:CI)] [] (if m.l=[] then [] else [(⟨t',B,f,m.l,a5,a4.length⟩:CI)]) r.l [] rest f I:=by
      refine ⟨.inr ⟨_,rfl,rfl,rfl,h7⟩,.inl ⟨rfl,rfl⟩,?_,by simp⟩;rw [T2,fZ];have O:r.l.flatMap ex=pk u m.l:=O;by_cases h:m.l=[]
      ·refine .inl ⟨?_,by rw [ai h]⟩;rw [O,h]; rfl
      ·exact .inr ⟨by rw [O]; exact q3 h,Z,_,by rw [ag h],O.symm,rfl,q7⟩
     have a3:=StkR.snoc hS b1;have e:(gC a ns t at_ rest b0 r).chs=a++([(⟨t,at_,rest,r.l,b0,ns.length⟩:CI)]++[]):=by
      show a++(if r.l=[] then [] else _)=_;rw [ag hl]; rfl
     rw [<- e] at a3;exact ⟨_,_,a3,a0 _ (fun x V=>cZ _ V),a1,a2⟩
   ·exact absurd h5 (q1 r.cl (by simp))
 ·right;have q:=Yb H hv h1;refine ⟨h2,?_⟩;rcases N with ⟨m,A',a4,B,a5,rfl,q2,q3,q4,q5,q6,q7⟩|⟨_,q2⟩
  ·exact absurd q5 (q m.cl (by rw [q2]; simp))
  ·exact q2
theorem M6 (H:H5 p u j c b cs ks ex exm) {I:Ist} {lm J:List Int} {tm t':T} {m rest f:List GI} {a gx Y:List CI} {o o':Option SI} {M:Lvs} (hv:∀ k∈lm,k∈ks) (hl:m.length=cs.length) (hn:∀ g∈m,ncT g.t)
  (hA:Alt p os (jJ c I) lm tm (m++rest) (a++gx) o) (hP:Pend u os I (lm.flatMap exm++J.flatMap ex) t' f Y o') (hS:StkR u c cs ks ex exm os a Y M) (hG:lm.flatMap exm++J.flatMap ex≠[]->GoalsR M rest f) (hX:GX os gx J rest I) :
  (∃ s s',o=some s/\o'=some s'/\B5 u c cs ks ex exm os s s') ∨ (lj p (a++gx) o/\Pend u os I (J.flatMap ex) t' f Y o'):=by
 rcases hA with ⟨r,A,ns,at_,b0,rfl,rfl,h3,h4,O,h6,h7⟩|⟨h1,h2⟩
 ·have b1:∀ i∈A,i∈ks:=fun i hi=>hv i (cZ _ hi);have b2:=VS H b1 h4;obtain ⟨d,G,a6,hd|⟨rr,hr,a7,a8,hT⟩⟩:=H.exk r.i (hv _ (by simp))
  ·rw [cu,h3] at G;have e0:=uH G;rw [e0] at O;obtain ⟨v,x,O⟩:=O;exact absurd O (hd.2 I v x)
  ·rw [cu,h3] at G;have e0:=uH G;subst e0;have hE:EI I rr:=by
    obtain ⟨v,x,O⟩:=O;exact ⟨v,x,(hT I v x).2 O⟩
   rw [Q4,rQ,hr,dx] at hP hG;have a0:=hG (by simp);rcases hP with ⟨D,A',b5,U,b6,rfl,q2,q3,q4,q5,q6,q7⟩|⟨q1,_⟩
   ·obtain ⟨_,e2,e3⟩:=xw (E:=EI I) (x:=rr) (R:=r.l.flatMap exm++J.flatMap ex) (by rw [<- q2]; simp) b2 hE q4 q5;refine .inl ⟨_,_,rfl,rfl,?_⟩;have a1:∀ N:Lvs,(∀ x∈M,x∈N)->GoalsR N (fy r.cl r.by_ (a++gx).length at_ (m++rest)) (fy D.cl D.by_ Y.length U f):=fun N hs=>by
     unfold fy;rw [<- e2,<- dx];refine (GoalsR.nc (by simp [a8,hl]) (fun g Z=>?_) (Ss a7 _ _)).app (a0.mono fun g _ x hx=>hs _ hx);rcases bF.1 Z with Z|Z
     ·exact Ss a6 _ _ g Z
     ·exact hn g Z
    have a2:Rep os r.st (gt (fy r.cl r.by_ (a++gx).length at_ (m++rest))) (jJ rr I):=by rw [uR]; exact h6.congr fun v w=>(hT I v w).symm
    have a3:Rep os D.st (gt (fy D.cl D.by_ Y.length U f)) (jJ rr I):=by rw [uR,e2]; exact q6
    by_cases V:gx++(if r.l=[] then [] else [(⟨tm,at_,m++rest,r.l,b0,ns.length⟩:CI)])=[]
    ·obtain ⟨a9,q⟩:=List.append_eq_nil_iff.1 V;have a4:r.l=[]:=V0 fun hc=>by rw [ag hc] at q; cases q
     have b3:J=[]:=by
      rcases hX with ⟨_,h⟩|⟨x,h,_⟩
      ·exact h
      ·rw [a9] at h; cases h
     have B:D.l=[]:=by
      refine V0 fun hc=>q3 hc ?_;rw [<- e3,a4,b3]; rfl
     refine ⟨M,_,?_,a1 M (fun x hx=>hx),a2,a3⟩;show StkR u c cs ks ex exm os ((a++gx)++(if r.l=[] then [] else _)) (Y++(if D.l=[] then [] else _)) M;rw [dx,V,ai B,bV,bV];exact hS
    ·have b4:Yo u c cs ks ex exm os M gx (if r.l=[] then [] else [(⟨tm,at_,m++rest,r.l,b0,ns.length⟩:CI)]) (if D.l=[] then [] else [(⟨t',U,f,D.l,b6,b5.length⟩:CI)]) J r.l rest f I:=by
      refine ⟨hX,?_,?_,V⟩
      ·by_cases q:r.l=[]
       ·exact .inl ⟨by rw [ai q],q⟩
       ·exact .inr ⟨_,m,by rw [ag q],rfl,rfl,hl,hn,fun k hk=>hv k (by simp [hk]),h7⟩
      ·by_cases B:D.l=[]
       ·refine .inl ⟨?_,by rw [ai B]⟩;rw [e3,B]; rfl
       ·exact .inr ⟨by rw [e3]; exact q3 B,a0,_,by rw [ag B],e3.symm,rfl,q7⟩
     have a5:=StkR.snoc hS b4;rw [<- dx] at a5;exact ⟨_,_,a5,a1 _ (fun x hx=>cZ _ hx),a2,a3⟩
   ·exact absurd hE (q1 rr (by simp))
 ·exact .inr ⟨h2,hP.drop (VS H hv h1)⟩
theorem Qx (H:H5 p u j c b cs ks ex exm) {I:Ist} {i:List Int} {B:T} {rest f:List GI} {a gx l:List CI} {o g:Option SI} {q:Lvs} (r:∀ {o g:Option SI},lj p a o->lj u l g->QN u c b cs ks ex exm os o g)
  (D:GX os gx i rest I) (m:lj p (a++gx) o) (t:Pend u os I (i.flatMap ex) B f l g) (G:StkR u c cs ks ex exm os a l q) (J:i.flatMap ex≠[]->GoalsR q rest f):QN u c b cs ks ex exm os o g:=by
 rcases D with ⟨rfl,rfl⟩|⟨x,rfl,rfl,rfl,hR⟩
 ·rw [bV] at m;refine r m ?_;rcases t with ⟨_,A,_,_,_,_,h,_⟩|⟨_,h⟩
  ·simp at h
  ·exact h
 ·obtain ⟨M,N,_⟩:=F2 H.okp m hR;rcases NT H N M t G J with h|⟨O,U⟩
  ·exact h
  ·exact r O U
theorem pF (H:H5 p u j c b cs ks ex exm) {a B:List CI} {J:Lvs} (Y:StkR u c cs ks ex exm os a B J):∀ {o q:Option SI},lj p a o->lj u B q->QN u c b cs ks ex exm os o q:=by
 induction Y with
 | nil=>
  rintro o q ⟨n,ns,h,_⟩ ⟨n',Z,r,_⟩;exact .inl ⟨MR h rfl,MR r rfl⟩
 | @snoc a B gx gm gu J O U rest f I M l V=>
  intro o q h r;have G:∃ N,Pend u os I (U.flatMap exm++O.flatMap ex) N f B q:=by
   rcases l.u with ⟨e1,rfl⟩|⟨_,_,x,rfl,e2,rfl,hR⟩
   ·rw [bV] at r;exact ⟨zT,.inr ⟨fun cl t=>(by rw [e1] at t; cases t),r⟩⟩
   ·obtain ⟨D,k2,_⟩:=F2 H.oku r hR;exact ⟨x.goal,by rw [<- e2]; exact D.pend k2⟩
  obtain ⟨N,G⟩:=G;have i:U.flatMap exm++O.flatMap ex≠[]->GoalsR J rest f:=fun g=>by
   rcases l.u with ⟨e1,_⟩|⟨_,e2,_⟩
   ·exact absurd e1 g
   ·exact e2
  rcases l.m with ⟨rfl,rfl⟩|⟨m,a0,rfl,rfl,hr,hl,hn,hv,hR⟩
  ·rw [bV] at h;exact Qx H V l.x h G M i
  ·rw [<- dx] at h;obtain ⟨D,_,_⟩:=F2 H.okp h hR;rw [hr] at D;rcases M6 H hv hl hn D G M i l.x with h|⟨h1,h2⟩
   ·exact .inr (.inl h)
   ·exact Qx H V l.x h1 h2 M fun g=>i fun e=>g (List.append_eq_nil_iff.1 e).2
end
end
section
open Go Go.RowKit
mutual
theorem Rm (f:Int->Int):∀ (t:T) (d:Int),ox (mvT f t) d=ox t d
 | .mk k n s ks,d=>by rw [mvT,ox,ox,Q5 f ks]
theorem Q5 (f:Int->Int):∀ (ts:List T) (d:Int),Hv (mvL f ts) d=Hv ts d
 | [],_=>rfl
 | t::ts,d=>by rw [mvL,Hv,Hv,Rm f t,Q5 f ts]
end
theorem AN (f:Int->Int) (t:T):bv (mvT f t)=bv t:=by
 unfold bv; rw [RY,Rm]
theorem YQ (f:Int->Int) (t:T):sameHd t (mvT f t):=⟨kQ f t,FW f t,nW f t⟩
mutual
theorem SW {f:Int->Int} {g vs:List Int} (hf:∀ a∈g,∀ b∈g,f a=f b->a=b) (h:∀ m∈vs,m∈g):∀ t:T,inT g t->jQ (vs.map f) (mvT f t)=jQ vs t
 | .mk k n s ks,hi=>by
  rw [inT] at hi;rw [mvT,jQ,jQ];by_cases hk:k=1
  ·rw [ai hk,ai hk,ai hk,UN fun m i e=>hf m (h m i) n (hi.1 hk) e]
  ·rw [ag hk,ag hk,ag hk,Bm hf h ks hi.2]
theorem Bm {f:Int->Int} {g vs:List Int} (hf:∀ a∈g,∀ b∈g,f a=f b->a=b) (h:∀ m∈vs,m∈g):∀ ts:List T,inL g ts->fC (vs.map f) (mvL f ts)=fC vs ts
 | [],_=>rfl
 | t::ts,hi=>by
  rw [inL] at hi;rw [mvL,fC,fC,SW hf h t hi.1,Bm hf h ts hi.2]
end
theorem R0 (f:Int->Int):∀ us:List T,(mvL f us).all bv=us.all bv
 | []=>rfl
 | t::ts=>by rw [mvL,IU,IU,AN,R0 f ts]
theorem To {N:Nat} {f:Int->Int} {us:List T} (g:bL N us) (hf:TI f us):(cU (mvL f us) []).length=(cU us []).length/\fC (cU (mvL f us) []) (mvL f us)=fC (cU us []) us:=by
 have q:cU us []=c7 us []:=(qF us [] g).symm;have o:∀ a∈cU us [],∀ b∈cU us [],f a=f b->a=b:=by
  intro a i b l e;rw [q,qt us [] g] at i l;obtain h|⟨m,hm,rfl⟩:=i
  ·cases h
  obtain h|⟨n,hn,rfl⟩:=l
  ·cases h
  rw [hf m hm n hn e]
 have e:=(xR o us [] (by simp) (oR us [])).1;rw [List.map_nil] at e;rw [e,jO];exact ⟨rfl,Bm o (fun m h=>h) us (oR us [])⟩
def R3 (t:T):Prop:=t.kind=3
theorem R3h:HdP R3:=⟨fun _ _ h a=>a.1.trans h,fun _ h=>h⟩
structure W3 (p:List C) (s:SI):Prop where
 ok:uB p.length s
 nc:Nc R3 s
 k3:∀ c∈s.chs,c.goal.kind=3
theorem W3.K {p:List C} {s:SI} (h:W3 p s):K3 s.chs:=fun c hc=>⟨h.k3 c hc,h.nc.chs c hc⟩
theorem Kg {p:List C} (g:∀ cl∈p,ie cl) (i:∀ cl∈p,∀ b∈cl.body,b.kind=3) {a:List CI} {o:Option SI} (h:lj p a o):∀ s,o=some s->W3 p s:=by
 obtain ⟨n,ns,f,l,hk⟩:=h;exact fun s e=>⟨(f.ok g l s e).1,f.nc R3h i (fun c hc=>(hk c hc).2) s e,f.k3 (fun c hc=>(hk c hc).1) s e⟩
theorem QW {p:List C} {s:SI} (a:W3 p s) {m:Nat} {x:NI} {o:Option SI} (f:s.st.length<=m) (h:BackI p s.chs m (s.nodes++[x]) o):lj p s.chs o:=
 ⟨m,_,h,(fJ a.ok.chs x).mono f (aS _),a.K⟩
theorem So {p:List C} (q:∀ cl∈p,ie cl) (i:∀ cl∈p,∀ b∈cl.body,b.kind=3) {s:SI} {o:Option SI} {e:Int} (h:StepI p false s o e) (a:W3 p s):∀ f,o=some f->W3 p f:=by
 intro f l;refine ⟨(h.ok q a.ok f l).1,h.nc R3h i a.nc f l,?_⟩
 revert l
 cases h with
 | large=>intro h; cases h
 | noCut=>intro h; cases h
 | err=>intro h; cases h
 | unknown=>intro h; cases h
 | cut g=>intro h; cases h; exact fun c hc=>a.k3 c (lB hc)
 | solved g=>intro h; cases h; exact a.k3
 | fail g _ _ _ _ _ m=>exact m.k3 a.k3 f
 | took g r _ _ _ _ t=>
  intro h; cases h;have i:_=_:=a.nc.goals _ (by rw [g]; exact aM ..);exact Mb a.k3 ((xq r (by omega)).1.trans i)
 | back g _ _ _ _ _ _ m=>exact m.k3 a.k3 f
theorem qu {p:List C} {s:SI} (a:W3 p s) {g:GI} {gs:List GI} {t:T} (i:s.goals=g::gs) (m:Res s.st (.one g.t t)):okU s.st.length g.t/\bL s.st.length (gt gs)/\sameHd g.t t/\(bv t=true->okT s.st t):=by
 have h:=a.ok.goals g (by rw [i]; simp);have r:g.t.kind=3:=a.nc.goals g (by rw [i]; simp);have o:=xq m (by omega);obtain ⟨f,_⟩:=oh a.ok.good h.1.1 a.ok.tab m;refine ⟨h.1.1.1.1,Rr fun x q=>(a.ok.goals x (by rw [i]; exact aR _ q)).1.1.1.1,o,fun l=>⟨⟨f,?_⟩,o.1.trans r⟩⟩;have:=fF l f;omega
theorem FL {p:List C} {s:SI} {o:Option SI} {e:Int} (h:StepI p false s o e):∃ g gs t,s.goals=g::gs/\Res s.st (.one g.t t):=by
 cases h with
 | large a f=>exact ⟨_,_,_,a,f⟩
 | noCut a f=>exact ⟨_,_,_,a,f⟩
 | err a f=>exact ⟨_,_,_,a,f⟩
 | unknown a f=>exact ⟨_,_,_,a,f⟩
 | cut a f=>exact ⟨_,_,_,a,f⟩
 | solved a f=>exact ⟨_,_,_,a,f⟩
 | fail a f=>exact ⟨_,_,_,a,f⟩
 | took a f=>exact ⟨_,_,_,a,f⟩
 | back a f=>exact ⟨_,_,_,a,f⟩
def Zh (p:List C) (s:SI) (o:Option SI) (e:Int) (g:GI) (gs:List GI) (t:T):Prop:=∃ code st,Blt s.st t code st/\
 ((code=0/\o=some ⟨st,gs,s.chs,s.nodes++[⟨t,g.up,-1⟩]⟩) ∨ (code=1/\BackI p s.chs s.st.length (s.nodes++[⟨t,g.up,-1⟩]) o/\(o=none->e=0)) ∨ (code≠0/\code≠1/\o=none/\e=Ni code))
def XY (p:List C) (s:SI) (o:Option SI) (e:Int) (g:GI) (gs:List GI) (t:T):Prop:=∃ oT m,TryI p t (eY p t) s.st oT m/\
 ((∃ r,oT=some r/\o=some (gC s.chs (s.nodes++[⟨t,g.up,-1⟩]) t s.nodes.length gs s.st r)) ∨ (oT=none/\BackI p s.chs m (s.nodes++[⟨t,g.up,-1⟩]) o/\(o=none->e=0)))
theorem Fw {p:List C} {s:SI} {o:Option SI} {e:Int} (h:StepI p false s o e) {g:GI} {gs:List GI} {t:T} (J:s.goals=g::gs) (M:Res s.st (.one g.t t)) :
  (bv t=false->o=none/\e=3)/\(bv t=true->ez t=true->o=some ⟨s.st,gs,s.chs.take g.cut.toNat,s.nodes++[⟨t,g.up,-1⟩]⟩)/\
  (bv t=true->ez t=false->bU t=true->Zh p s o e g gs t)/\(bv t=true->ez t=false->bU t=false->(eY p t=[]->o=none/\e=8)/\(eY p t≠[]->XY p s o e g gs t)):=by
 have same:∀ {B:GI} {gs':List GI} {D:T},s.goals=B::gs'->Res s.st (.one B.t D)->B=g/\gs'=gs/\D=t:=by
  intro B gs' D a f;rw [J,dK] at a;obtain ⟨rfl,rfl⟩:=a;exact ⟨rfl,rfl,RM M _ f⟩
 cases h with
 | large a f i=>
  obtain ⟨rfl,rfl,rfl⟩:=same a f;simp [i]
 | noCut _ _ _ _ h=>cases h
 | cut a f i l=>
  obtain ⟨rfl,rfl,rfl⟩:=same a f;simp [i,l]
 | solved a f i l m q=>
  obtain ⟨rfl,rfl,rfl⟩:=same a f;simp only [i,l,m,forall_const,reduceCtorEq,false_implies,i7,gL];exact ⟨_,_,q,.inl ⟨rfl,rfl⟩⟩
 | fail a f i l m q r=>
  obtain ⟨rfl,rfl,rfl⟩:=same a f;simp only [i,l,m,forall_const,reduceCtorEq,false_implies,i7,gL];exact ⟨_,_,q,.inr (.inl ⟨rfl,r,fun e=>by rw [e]; rfl⟩)⟩
 | err a f i l m q r G=>
  obtain ⟨rfl,rfl,rfl⟩:=same a f;simp only [i,l,m,forall_const,reduceCtorEq,false_implies,i7,gL];exact ⟨_,_,q,.inr (.inr ⟨r,G,rfl,rfl⟩)⟩
 | unknown a f i l m q=>
  obtain ⟨rfl,rfl,rfl⟩:=same a f;simp [i,l,m,q]
 | took a f i l m q r=>
  obtain ⟨rfl,rfl,rfl⟩:=same a f;simp only [i,l,m,q,forall_const,reduceCtorEq,false_implies,i7,Pg,ne_eq];exact ⟨_,_,r,.inl ⟨_,rfl,rfl⟩⟩
 | back a f i l m q r G=>
  obtain ⟨rfl,rfl,rfl⟩:=same a f;simp only [i,l,m,q,forall_const,reduceCtorEq,false_implies,i7,Pg,ne_eq];exact ⟨_,_,r,.inr ⟨rfl,G,fun e=>by rw [e]; rfl⟩⟩
theorem Al {p:List C} (J:∀ cl∈p,ie cl) {os:List T} {I:Ist} {s:SI} (a:W3 p s) {o:Option SI} {e:Int} {g:GI} {gs:List GI} {t:T} (q:s.goals=g::gs) (B:Res s.st (.one g.t t)) (i:bv t=true) (hR:Rep os s.st (gt s.goals) I)
  (h:XY p s o e g gs t):Alt p os I (eY p t) t gs s.chs o/\(o=none->e=0):=by
 obtain ⟨O,U,k3,M⟩:=qu a q B;rw [q] at hR;have l:Rep os s.st (t::gt gs) I:=Rep.res hR a.ok.good O B;obtain ⟨oT,m,N,V⟩:=h;have f:=N.sem J a.ok.good (M i) U l s.st.length (aS _) (g7 _).symm;rcases V with ⟨r,rfl,rfl⟩|⟨rfl,hb,he⟩
 ·obtain ⟨A,Y,Z,a3,a4,a5⟩:=f.2 r rfl;exact ⟨.inl ⟨r,A,_,_,_,rfl,Y,Z,a3,a4,a5,l⟩,fun h=>by cases h⟩
 ·refine ⟨.inr ⟨f.1 rfl,QW a ?_ hb⟩,he⟩;have D:=M i;have G:=a.ok.goals g (by rw [q]; simp);exact (N.ok J a.ok.good a.ok.tab ⟨D.1,(oh a.ok.good G.1.1 a.ok.tab B).2⟩).1
end
end Go.Proofs.YtgllldjiaglkcaaGreatDoor
