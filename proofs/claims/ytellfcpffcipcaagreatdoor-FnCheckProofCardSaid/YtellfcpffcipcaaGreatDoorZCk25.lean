/- What unification means: the solutions of a table of bindings. No program in sight. -/
import Derived.Test.YtellfcpffcipcaaGreatDoorZCkA
import Derived.Test.YtellfcpffcipcaaGreatDoorZCk24
namespace Go.Proofs.YtellfcpffcipcaaGreatDoor
section
open Go Go.RowKit
def kW (σ:Int->T) (st:au):Prop:=∀ (n:Nat) (u:T),st[n]?=some (some u)->σ n=sbT σ u
mutual
def tsz:T->Nat
 | .mk _ _ _ ks=>1+aa5 ks
def aa5:List T->Nat
 | []=>0
 | t::ts=>tsz t+aa5 ts
end
theorem oh (σ:Int->T) {t:T} (h:t.kind=1):sbT σ t=σ t.n:=by
 cases t;rw [sbT];exact ai h
theorem oj (σ:Int->T) {t:T} (h:t.kind≠1):sbT σ t=.mk t.kind t.n t.name (sbL σ t.kids):=by
 cases t;rw [sbT];exact af h
mutual
theorem abS {N:Nat} (σ:Int->T):∀ t:T,okU N t->∀ m∈vT t,tsz (σ (m:Int))<=tsz (sbT σ t)
 | .mk k n s ks,h,m,hm=>by
  rw [okU] at h;rw [vT] at hm;rw [sbT];split at hm
  ·rename_i hk
   obtain ⟨a,_⟩:=h.2.1 hk;simp only [cE] at hm;subst hm;rw [ai hk,uW a];exact be _
  ·rename_i hk
   have:=Vd σ ks h.2.2.1 m hm;rw [af hk,tsz];omega
theorem Vd {N:Nat} (σ:Int->T):∀ ts:List T,du N ts->∀ m∈vTL ts,tsz (σ (m:Int))<=aa5 (sbL σ ts)
 | [],_,m,a=>by simp [vTL] at a
 | t::ts,h,m,a=>by
  rw [du] at h;rw [vTL,ci] at a;rw [sbL,aa5];rcases a with a|a
  ·have:=abS σ t h.1 m a;omega
  ·have:=Vd σ ts h.2 m a;omega
end
theorem adi {N:Nat} (σ:Int->T) {t:T} (h:okU N t) (hk:t.kind≠1) {m:Nat} (a:m∈vT t):tsz (σ (m:Int))<tsz (sbT σ t):=by
 rw [Ap hk] at a;have:=Vd σ t.kids h.kids m a;rw [oj σ hk,tsz];omega
theorem aca {N:Nat} {st:au} (f:Good N st) {σ:Int->T} (g:kW σ st) {m n:Nat} (h:Rch st m n):tsz (σ (n:Int))<=tsz (σ (m:Int)):=by
 induction h with
 | refl=>exact be _
 | step a i _ j=>
  rw [g _ _ a];exact gM j (abS σ _ (f.ok _ (cJ a)) _ i)
theorem Y1 {N:Nat} {st:au} (a:Good N st) {σ:Int->T} (f:kW σ st) {n:Nat} {t:T} (g:okU N t) (hk:t.kind≠1) (h:gY st n t):σ (n:Int)≠sbT σ t:=by
 obtain ⟨m,i,j⟩:=h;intro e;have l:=aca a f j;have o:=adi σ g hk i;rw [e] at l;omega
theorem aaG {st:au} {n:Nat} {t:T} (hk:t.kind=1) (hl:look st t=none) (g:gY st n t):t.n.toNat=n:=by
 obtain ⟨m,a,h⟩:=g;rw [kH hk,cE] at a;subst a;cases h with
 | refl=>rfl
 | step f _ _=>rcases xq.1 hl hk with e|e <;> rw [e] at f <;> cases f
theorem iG {N:Nat} {st:au} (f:Good N st) {σ:Int->T} (g:kW σ st) {t v:T} (h:dL st t v):okU N t->sbT σ v=sbT σ t:=by
 induction h with
 | stop=>exact fun _=>rfl
 | step hl _ l=>
  intro i;obtain ⟨hk,a⟩:=dC.1 hl;have j:=(i.var hk).1;rw [l (f.look_ok hl).1,oh σ hk,<- g _ _ a,uW j]
theorem QQ {σ:Int->T} {st:au} {n:Nat} {t:T} (hn:st[n]?=some none):kW σ (st.set n (some t))↔kW σ st/\σ (n:Int)=sbT σ t:=by
 have f:n<st.length:=(fS.1 hn).1;constructor
 ·intro h;refine ⟨fun m u a=>h m u ?_,h n t (QP f)⟩;rw [C8 (fun e=>by subst e;rw [hn] at a;cases a)];exact a
 ·rintro ⟨h,g⟩ m u a;by_cases e:n=m
  ·subst e;rw [QP f,aY,aY] at a;rw [<- a];exact g
  ·rw [C8 e] at a;exact h m u a
def Jeq (σ:Int->T):Job->Prop
 | .one a b=>sbT σ a=sbT σ b
 | .list xs ys=>sbL σ xs=sbL σ ys
theorem Wn {σ:Int->T} {a b:T} (j:a.kind≠1) (l:b.kind≠1):sbT σ a=sbT σ b↔kK a b=true/\sbL σ a.kids=sbL σ b.kids:=by
 rw [oj σ j,oj σ l,T.mk.injEq,Sh];constructor
 ·rintro ⟨g,h,i,f⟩;have:=congrArg List.length f;rw [p8,p8] at this;exact ⟨⟨g,h,i,this⟩,f⟩
 ·rintro ⟨⟨g,h,i,_⟩,f⟩;exact ⟨g,h,i,f⟩
theorem Uni.sem {N:Nat} {st t:au} {j:Job} {r:Bool} (hu:Uni st j r t):Good N st->okJ N j->∀ σ,(r=true->(kW σ t↔kW σ st/\Jeq σ j))/\(r=false->kW σ st->¬ Jeq σ j):=by
 induction hu with
 | same m l G U he=>
  intro f g σ;refine ⟨fun _=>⟨fun i=>⟨i,?_⟩,fun h=>h.1⟩,fun h=>by cases h⟩;show sbT σ _=sbT σ _;rw [<- iG f i m g.1.1,<- iG f i l g.2.1,oh σ G,oh σ U,he]
 | bindA m l hk o O=>
  intro f g σ;have B:=(dS f m g.1).1;have M:=(B.var hk).1;rw [QQ (rE f hk (iV m) B),uW M];refine ⟨fun _=>and_congr_right fun i=>?_,fun h=>by cases h⟩;show _↔sbT σ _=sbT σ _;rw [<- iG f i m g.1.1,<- iG f i l g.2.1,oh σ hk]
 | occA m l hk o O=>
  rename_i st a b a' V
  intro f g σ;refine ⟨fun h=>(by cases h),fun _ i=>?_⟩;have B:=(dS f m g.1).1;have Z:=(dS f l g.2).1;have M:=(B.var hk).1;show ¬ sbT σ _=sbT σ _;rw [<- iG f i m g.1.1,<- iG f i l g.2.1,oh σ hk];by_cases D:V.kind=1
  ·have e:=aaG D (iV l) O;have G:=(Z.var D).1;exact absurd ⟨D,by omega⟩ o
  ·have:=Y1 f i Z D O
   rwa [uW M] at this
 | bindB m l o hk O=>
  intro f g σ;have B:=(dS f l g.2).1;have M:=(B.var hk).1;rw [QQ (rE f hk (iV l) B),uW M];refine ⟨fun _=>and_congr_right fun i=>?_,fun h=>by cases h⟩;show _↔sbT σ _=sbT σ _;rw [<- iG f i m g.1.1,<- iG f i l g.2.1,oh σ hk];exact u5
 | occB m l o hk O=>
  intro f g σ;refine ⟨fun h=>(by cases h),fun _ i=>?_⟩;have B:=(dS f l g.2).1;have Z:=(dS f m g.1).1;have M:=(B.var hk).1;show ¬ sbT σ _=sbT σ _;rw [<- iG f i m g.1.1,<- iG f i l g.2.1,oh σ hk];have:=Y1 f i Z o O;rw [uW M] at this;exact fun e=>this e.symm
 | clash m l G U hd=>
  intro f g σ;refine ⟨fun h=>(by cases h),fun _ i=>?_⟩;show ¬ sbT σ _=sbT σ _;rw [<- iG f i m g.1.1,<- iG f i l g.2.1,Wn G U,hd];exact fun e=>by cases e.1
 | @kids st t a b a' V r m l G U hd _ ih=>
  intro f g σ;obtain ⟨Y,i2⟩:=ih f ⟨kq (dS f m g.1),kq (dS f l g.2),rI hd⟩ σ;have e:kW σ st->(Jeq σ (.one a b)↔Jeq σ (.list a'.kids V.kids)):=fun i=>by
   show sbT σ a=sbT σ b↔sbL σ a'.kids=sbL σ V.kids;rw [<- iG f i m g.1.1,<- iG f i l g.2.1,Wn G U,hd];simp
  exact ⟨fun J=>(Y J).trans (and_congr_right fun i=>(e i).symm),fun J i q=>i2 J i ((e i).1 q)⟩
 | nil=>
  intro f g σ;exact ⟨fun _=>⟨fun h=>⟨h,rfl⟩,fun h=>h.1⟩,fun h=>by cases h⟩
 | stop _ ih=>
  intro f g σ;obtain ⟨_,i2⟩:=ih f ⟨g.1 _ (bi ..),g.2.1 _ (bi ..)⟩ σ;refine ⟨fun h=>(by cases h),fun _ i q=>i2 rfl i ?_⟩;have q:sbL σ (_::_)=sbL σ (_::_):=q;rw [sbL,sbL,gV] at q;exact q.1
 | @go st a2 t a b xs ys r G _ a0 a1=>
  intro f g σ;have j1:okJ N (.one a b):=⟨g.1 _ (bi ..),g.2.1 _ (bi ..)⟩
  have j2:okJ N (.list xs ys):=⟨fun a m=>g.1 a (bk _ m),fun b l=>g.2.1 b (bk _ l),by have:=g.2.2;simpa using this⟩
  obtain ⟨Y,_⟩:=a0 f j1 σ;obtain ⟨i3,i4⟩:=a1 (G.good f j1).1 j2 σ;have e:Jeq σ (.list (a::xs) (b::ys))↔Jeq σ (.one a b)/\Jeq σ (.list xs ys):=by
   show sbL σ (a::xs)=sbL σ (b::ys)↔_;rw [sbL,sbL,gV];exact Iff.rfl
  refine ⟨fun J=>?_,fun J i q=>?_⟩
  ·rw [i3 J,Y rfl,e,and_assoc]
  ·rw [e] at q;exact i4 J ((Y rfl).2 ⟨i,q.1⟩) q.2
theorem abu {N:Nat} {st:au} (f:Good N st) (κ:Int->T):kW (fun n=>sbT κ (sgR st n)) st:=by
 intro n u hn;have h:=f.ok u (cJ hn);obtain ⟨r,g⟩:=Di f u h;have a:Res st (.one (idS (n:Int)) r):=by
  cases g with
  | one i hl=>exact .one (.step (dC.2 ⟨rfl,by rw [idS];exact hn⟩) i) hl
 show sbT κ (sgR st n)=_;rw [ZP a,acx g h,Ro]
theorem OJ {N:Nat} {st:au} (h:Good N st) {σ:Int->T} (m:kW σ st) {j:Nz} (o:Res st j):match j with
  | .one t u=>okU N t->sbT σ u=sbT σ t
  | .list ts us=>du N ts->sbL σ us=sbL σ ts:=by
 induction o with
 | one l hl q=>
  rename_i t v us
  intro a;have i:=Ji h l a;rw [<- iG h m l a];by_cases hk:v.kind=1
  ·obtain ⟨_,_,r,B⟩:=i.var hk;rw [oh σ hk,oh σ (t:=.mk v.kind v.n v.name us) hk];rfl
  ·rw [oj σ hk,oj σ (t:=.mk v.kind v.n v.name us) hk];exact congrArg _ (q i.kids)
 | nil=>exact fun _=>rfl
 | cons _ _ f g=>
  intro a;rw [du] at a;rw [sbL,sbL,f a.1,g a.2]
mutual
theorem mg {N:Nat} {σ τ:Int->T} (h:∀ n:Int,0<=n->n<N->σ n=τ n):∀ t:T,okU N t->sbT σ t=sbT τ t
 | .mk k n s ks,ho=>by
  rw [okU] at ho;rw [sbT,sbT];by_cases hk:k=1
  ·obtain ⟨a,f,_⟩:=ho.2.1 hk;rw [ai hk,ai hk,h n a f]
  ·rw [af hk,af hk,sn h ks ho.2.2.1]
theorem sn {N:Nat} {σ τ:Int->T} (h:∀ n:Int,0<=n->n<N->σ n=τ n):∀ ts:List T,du N ts->sbL σ ts=sbL τ ts
 | [],_=>rfl
 | t::ts,ho=>by
  rw [du] at ho;rw [sbL,sbL,mg h t ho.1,sn h ts ho.2]
end
theorem zN {N:Nat} {st:au} (a:Good N st) {σ τ:Int->T} (h:∀ n:Int,0<=n->n<N->σ n=τ n) (f:kW σ st):kW τ st:=by
 intro n u hn;have g:=(fS.1 hn).1;have hl:=a.len;rw [<- h n (by omega) (by omega),f n u hn];exact mg h u (a.ok u (cJ hn))
mutual
theorem Eh (σ:Int->T) (m:Int):∀ t:T,sbT σ (bD m t)=sbT (fun n=>σ (n+m)) t
 | .mk k n s ks=>by
  rw [bD,sbT,sbT];by_cases hk:k=1
  ·rw [ai hk,ai hk,ai hk]
  ·rw [af hk,af hk,af hk,Dt σ m ks]
theorem Dt (σ:Int->T) (m:Int):∀ ts:List T,sbL σ (gw m ts)=sbL (fun n=>σ (n+m)) ts
 | []=>rfl
 | t::ts=>by rw [gw,sbL,sbL,Eh σ m t,Dt σ m ts]
end
theorem ou (σ:Int->T) (st:au) (k:Nat):kW σ (st++List.replicate k none)↔kW σ st:=by
 constructor
 ·intro h n u hn;exact h n u (by rw [vA (fS.1 hn).1];exact hn)
 ·intro h n u hn;rw [YF] at hn;split at hn
  ·exact h n u hn
  ·rw [Qc] at hn;split at hn <;> cases hn
def Cl (N:Nat) (σ τ:Int->T):Int->T:=fun n=>if n<N then σ n else τ (n - N)
theorem xl {N:Nat} (σ τ:Int->T):∀ n:Int,0<=n->n<N->σ n=Cl N σ τ n:=fun n _ h=>by rw [Cl,ai h]
theorem Hn {N M:Nat} (σ τ:Int->T) {t:T} (a:okU M t):sbT (Cl N σ τ) (bD N t)=sbT τ t:=by
 rw [Eh];refine mg (N:=M) (fun n f _=>?_) t a;rw [Cl,af (by omega)]
 congr 1
 omega
mutual
theorem abf {a:List Int} {σ ρ:Int->T} (h:∀ n∈a,ρ (Nl a n)=σ n):∀ t:T,inT a t->sbT ρ (uo a t)=sbT σ t
 | .mk k n s ks,hi=>by
  rw [inT] at hi;rw [uo];by_cases hk:k=1
  ·rw [ai hk,sbT,ai rfl,sbT,ai hk,h n (hi.1 hk)]
  ·rw [af hk,sbT,af hk,sbT,af hk,H4 h ks hi.2]
theorem H4 {a:List Int} {σ ρ:Int->T} (h:∀ n∈a,ρ (Nl a n)=σ n):∀ ts:List T,inL a ts->sbL ρ (kU a ts)=sbL σ ts
 | [],_=>rfl
 | t::ts,hi=>by
  rw [inL] at hi;rw [kU,sbL,sbL,abf h t hi.1,H4 h ts hi.2]
end
theorem XM (us:List T) (σ:Int->T):∃ ρ:Int->T,sbL ρ (kU (fm us []) us)=sbL σ us:=by
 refine ⟨fun i=>σ ((fm us []).getD i.toNat 0),H4 (fun n hn=>?_) us (Kj us [])⟩;obtain ⟨i,a,f,_⟩:=W5 hn;simp only [f,dq,MI,a,O3]
end
section
open Go Go.RowKit
def Mt (p:List C) (P:T->Prop) (t:T) (i:Int):Prop:=∃ cl τ,p[i.toNat]?=some cl/\sbT τ cl.head=t/\∀ b∈cl.body,P (sbT τ b)
structure acR (p:List C) (P:T->Prop):Prop where
 cl:∀ t,P t->fC t=false->bW t=false->∃ i∈hH p t,Mt p P t i
 blt:∀ (st st':au) (t:T) (c:Int) (σ:Int->T),Good st.length st->(okU st.length t/\wT t<=1048576)->bW t=true->kW σ st->P (sbT σ t)->Blt st t c st'->c≠1/\(c=0->kW σ st')
theorem TryI.cov {p:List C} {P:T->Prop} (hp:∀ cl∈p,kB cl) {g:T} {l:List Int} {st:au} {o:Option HI} {n:Nat} (h:TryI p g l st o n):Good st.length st->(okU st.length g/\wT g<=1048576)->
  ∀ σ,kW σ st->∀ i∈l,Mt p P (sbT σ g) i->∃ r,o=some r/\((∃ G:Int->T,(∀ k:Int,0<=k->k<st.length->σ k=G k)/\kW G r.st/\∀ b∈r.cl.body,P (sbT G (bD r.by_ b))) ∨ i∈r.l):=by
 induction h with
 | nil=>intro _ _ σ _ i f;cases f
 | @hit j l cl st V J Y=>
  intro B q σ M i f N;have a:=hp _ (cJ J);rcases cw.1 f with rfl|f
  ·obtain ⟨O,τ,hc,U,hb⟩:=N;rw [dq,J] at hc;cases hc;refine ⟨_,rfl,.inl ⟨Cl st.length σ τ,xl σ τ,?_,?_⟩⟩
   ·refine ((Y.sem B.g26 (MW q a) (Cl st.length σ τ)).1 rfl).2 ⟨(ou _ st 26).2 (zN B (xl σ τ) M),?_⟩;show sbT _ g=sbT _ (bD _ cl.head);rw [Hn σ τ a.head.1.1,U];exact (mg (xl σ τ) g q.1).symm
   ·intro b D;show P (sbT (Cl st.length σ τ) (bD st.length b));rw [Hn σ τ (a.body b D).1.1];exact hb b D
  ·exact ⟨_,rfl,.inr f⟩
 | @miss j l cl st V o n J Y _ ih=>
  intro B q σ M i f N;have a:=hp _ (cJ J);have m:=mw st;rcases cw.1 f with rfl|f
  ·obtain ⟨O,τ,hc,U,hb⟩:=N;rw [dq,J] at hc;cases hc;refine absurd ?_ ((Y.sem B.g26 (MW q a) (Cl st.length σ τ)).2 rfl ((ou _ st 26).2 (zN B (xl σ τ) M)));show sbT _ g=sbT _ (bD _ cl.head);rw [Hn σ τ a.head.1.1,U];exact (mg (xl σ τ) g q.1).symm
  ·obtain ⟨r,hr,t⟩:=ih (by rw [m];exact B.g26) (by rw [m];exact ⟨iK (s3 ..) _ q.1,q.2⟩) σ ((ou _ st 26).2 M) i f N;refine ⟨r,hr,?_⟩;rcases t with ⟨G,h1,Z⟩|Z
   ·exact .inl ⟨G,fun k h0 hk=>h1 k h0 (by omega),Z⟩
   ·exact .inr Z
def abm (Q:(Int->T)->Prop):Prop:=∀ σ τ:Int->T,(∀ n:Int,0<=n->n<26->σ n=τ n)->Q σ->Q τ
def ad5 (P:T->Prop) (Q:(Int->T)->Prop) (st:au) (gs:List GI):Prop:=26<=st.length/\∃ σ,kW σ st/\Q σ/\∀ g∈gs,P (sbT σ g.t)
def aav (p:List C) (P:T->Prop) (Q:(Int->T)->Prop) (c:CI):Prop:=26<=c.binds.length/\∃ σ,kW σ c.binds/\Q σ/\(∀ g∈c.rest,P (sbT σ g.t))/\∃ i∈c.left,Mt p P (sbT σ c.goal) i
def Qp (p:List C) (P:T->Prop) (Q:(Int->T)->Prop) (s:SI):Prop:=ad5 P Q s.st s.goals ∨ ∃ c∈s.chs,aav p P Q c
theorem Ij {p:List C} {P:T->Prop} {Q:(Int->T)->Prop} (Y:abm Q) (B:∀ cl∈p,kB cl) {g:T} {l:List Int} {b:au} {o:Option HI} {n:Nat} (h:TryI p g l b o n) (D:Good b.length b) (m:tabM b) (G:(okU b.length g/\wT g<=1048576)/\okM g) (h26:26<=b.length)
  {rest:List GI} (Z:∀ x∈rest,okGI b.length x) {σ:Int->T} (J:kW σ b) (M:Q σ) (N:∀ x∈rest,P (sbT σ x.t)) {i:Int} (hi:i∈l) (O:Mt p P (sbT σ g) i):∃ r,o=some r/\∀ cs ns at_,Qp p P Q (jj cs ns g at_ rest b r):=by
 obtain ⟨r,rfl,f⟩:=h.cov B D G.1 σ J i hi O;obtain ⟨_,_,q⟩:=h.ok B D m G;obtain ⟨_,_,a3,a4,_⟩:=q r rfl;refine ⟨r,rfl,fun cs ns at_=>?_⟩;rcases f with ⟨U,V,j,q⟩|j
 ·refine .inl ⟨by show 26<=r.st.length;omega,U,j,Y σ U (fun k h0 hk=>V k h0 (by omega)) M,fun x hx=>?_⟩;have a:x∈nf r.cl r.by_ cs.length at_ rest:=hx;unfold nf at a;rcases ci.1 a with a|a
  ·obtain ⟨t,m,rfl⟩:=eV.1 a;exact q t m
  ·rw [<- mg V x.t (Z x a).1.1.1];exact N x a
 ·refine .inr ⟨⟨g,at_,rest,r.l,b,ns.length⟩,?_,h26,σ,J,M,N,i,j,O⟩;show _∈cs++(if r.l=[] then [] else [(⟨g,at_,rest,r.l,b,ns.length⟩:CI)])
  rw [af (fun e=>by rw [e] at j;cases j)];simp
theorem P1 {cs:List CI} {ns:List NI} {g:T} {a:Int} {rest:List GI} {b:au} {r:HI} {c:CI} (h:c∈cs):c∈(jj cs ns g a rest b r).chs:=dO _ h
theorem BackI.cov {p:List C} {P:T->Prop} {Q:(Int->T)->Prop} (N:abm Q) (G:∀ cl∈p,kB cl) {cs:List CI} {n:Nat} {ns:List NI} {o:Option SI} (h:BackI p cs n ns o):okCs p.length n ns.length cs->(∃ c∈cs,aav p P Q c)->∃ s,o=some s/\Qp p P Q s:=by
 have key:∀ {cs:List CI} {c:CI} {n m:Nat} {ns:List NI} {o:Option HI},TryI p c.goal c.left (ct c.binds n) o m->okCs p.length n ns.length (cs++[c])->aav p P Q c->∃ r,o=some r/\∀ cs ns at_,Qp p P Q (jj cs ns c.goal at_ c.rest (ct c.binds n) r):=by
  intro cs c n m ns o g f hc;obtain ⟨J,l,j,U⟩:=f.last;obtain ⟨q,g2,t,M⟩:=l.grow j;obtain ⟨B,σ,V,k3,Y,i,Z,k6⟩:=hc;have hl:=dj j;exact Ij N G g q g2 t (by omega) (fun x O=>(M x O).1) ((ou σ c.binds _).2 V) k3 Y Z k6
 induction h with
 | nil=>rintro _ ⟨c,hc,_⟩;cases hc
 | @hit cs c n m ns r g=>
  rintro f ⟨d,hd,a⟩;refine ⟨_,rfl,?_⟩;rcases ci.1 hd with hd|hd
  ·exact .inr ⟨d,P1 hd,a⟩
  ·rw [cE.1 hd] at a;obtain ⟨r',e,k⟩:=key g f a;cases e;exact k _ _ _
 | @miss cs c n m ns o g _ ih=>
  rintro f ⟨d,hd,a⟩;obtain ⟨J,l,j,U⟩:=f.last;obtain ⟨q,g2,t,M⟩:=l.grow j;obtain ⟨B,_,_⟩:=g.ok G q g2 t;have hl:=dj j;rw [hl] at B;have D:(ns.take c.taken).length=c.taken:=by rw [ey];omega
  rcases ci.1 hd with hd|hd
  ·exact ih (by rw [D];exact J.mono B (be _)) ⟨d,hd,a⟩
  ·rw [cE.1 hd] at a;obtain ⟨r',e,k⟩:=key g f a;cases e
structure HdP (R:T->Prop):Prop where
 hd:∀ t u,R t->sameHd t u->R u
 three:∀ t,R t->t.kind=3
structure Nc (R:T->Prop) (s:SI):Prop where
 goals:∀ g∈s.goals,R g.t
 chs:∀ c∈s.chs,∀ g∈c.rest,R g.t
def ncT (t:T):Prop:=t.kind=3/\fC t=false
theorem ncT.hd {t u:T} (h:ncT t) (a:sameHd t u):ncT u:=⟨by rw [a.1]; exact h.1,by rw [sD a]; exact h.2⟩
theorem Oy:HdP ncT:=⟨fun _ _ h a=>h.hd a,fun _ h=>h.1⟩
section
variable {R:T->Prop} (hR:HdP R)
include hR
theorem HdP.shift {t:T} (h:R t) (m:Int):R (bD m t):=hR.hd t _ h (sameHd.shift m t (by have:=hR.three t h; omega))
theorem WS {p:List C} (j:∀ cl∈p,∀ b∈cl.body,R b) {cs:List CI} {ns:List NI} {g:T} {a:Int} {rest:List GI} {b:au} {r:HI} (m:r.cl∈p) (o:∀ c∈cs,∀ g∈c.rest,R g.t) (i:∀ g∈rest,R g.t):Nc R (jj cs ns g a rest b r):=by
 refine ⟨fun x q=>?_,fun c hc=>?_⟩
 ·have h:x∈nf r.cl r.by_ cs.length a rest:=q;unfold nf at h;rcases ci.1 h with h|h
  ·obtain ⟨t,B,rfl⟩:=eV.1 h;exact hR.shift (j _ m t B) _
  ·exact i x h
 ·have f:c∈cs++(if r.l=[] then [] else [(⟨g,a,rest,r.l,b,ns.length⟩:CI)]):=hc;rcases ci.1 f with f|f
  ·exact o c f
  ·split at f
   ·cases f
   ·rw [cE.1 f];exact i
omit hR in
theorem TryI.mem {p:List C} {g:T} {l:List Int} {st:au} {o:Option HI} {n:Nat} (h:TryI p g l st o n):∀ r,o=some r->r.cl∈p:=by
 induction h with
 | nil=>intro r h;cases h
 | hit a _=>intro r h;cases h;exact cJ a
 | miss _ _ _ f=>exact f
theorem BackI.nc {p:List C} (i:∀ cl∈p,∀ b∈cl.body,R b) {cs:List CI} {n:Nat} {ns:List NI} {o:Option SI} (h:BackI p cs n ns o):(∀ c∈cs,∀ g∈c.rest,R g.t)->∀ s,o=some s->Nc R s:=by
 induction h with
 | nil=>intro _ s h;cases h
 | hit f=>
  intro a s h;cases h;exact WS hR i (f.mem _ rfl) (fun c hc=>a c (dO _ hc)) (a _ (by simp))
 | miss f _ j=>intro a;exact j fun c hc=>a c (dO _ hc)
theorem StepI.nc {p:List C} (j:∀ cl∈p,∀ b∈cl.body,R b) {s:SI} {o:Option SI} {e:Int} {nc:Bool} (h:StepI p nc s o e) (i:Nc R s):∀ a,o=some a->Nc R a:=by
 have tl:∀ {g:GI} {gs:List GI},s.goals=g::gs->∀ x∈gs,R x.t:=fun f x m=>i.goals x (by rw [f];exact bk _ m);cases h with
 | large=>intro a h;cases h
 | noCut=>intro a h;cases h
 | err=>intro a h;cases h
 | unknown=>intro a h;cases h
 | cut f=>intro a h;cases h;exact ⟨tl f,fun c hc=>i.chs c (zO hc)⟩
 | solved f=>intro a h;cases h;exact ⟨tl f,i.chs⟩
 | fail f _ _ _ _ _ l=>exact l.nc hR j i.chs
 | took f _ _ _ _ _ q=>intro a h;cases h;exact WS hR j (q.mem _ rfl) i.chs (tl f)
 | back f _ _ _ _ _ _ l=>exact l.nc hR j i.chs
end
theorem StepI.cov {p:List C} {P:T->Prop} {Q:(Int->T)->Prop} (hQ:abm Q) (hp:∀ cl∈p,kB cl) (hS:acR p P) {s:SI} {o:Option SI} {e:Int} (h:StepI p false s o e) (j:tz p.length s) (hn:Nc ncT s) (hc:Qp p P Q s):(∀ G,o=some G->Qp p P Q G)/\(o=none->e≠0):=by
 have first:∀ {g:GI} {gs:List GI} {t:T},s.goals=g::gs->Res s.st (.one g.t t)->bL t=true->((okU s.st.length t/\wT t<=1048576)/\okM t)/\fC t=false/\∀ σ,kW σ s.st->sbT σ t=sbT σ g.t:=by
  intro g gs t a l f;have a2:=j.goals g (by rw [a];simp);obtain ⟨a1,a3⟩:=sI j.good a2.1.1 j.tab l;have hw:=gG f a1;have U:=hn.goals g (by rw [a];simp);exact ⟨⟨⟨a1,by omega⟩,a3⟩,(U.hd (vD l (by have:=U.1;omega))).2,fun σ hσ=>OJ j.good hσ l a2.1.1.1.1⟩
 have J:∀ {m:Nat} {x:NI} {o:Option SI},s.st.length<=m->BackI p s.chs m (s.nodes++[x]) o->(∃ c∈s.chs,aav p P Q c)->(∀ G,o=some G->Qp p P Q G)/\(o=none->(if o.isSome then (-1:Int) else 0)≠0):=by
  intro m x o hm O Y;obtain ⟨G,rfl,h2⟩:=O.cov hQ hp ((g8 j.chs x).mono hm (be _)) Y;exact ⟨fun a4 e=>by cases e;exact h2,fun e=>by cases e⟩
 cases h with
 | large=>exact ⟨fun G h=>(by cases h),fun _=>by decide⟩
 | noCut _ _ _ _ h=>cases h
 | err _ _ _ _ _ _ h0 _=>
  refine ⟨fun G h=>(by cases h),fun _=>?_⟩;unfold Q0;split
  ·decide
  split
  ·decide
  split <;> decide
 | unknown=>exact ⟨fun G h=>(by cases h),fun _=>by decide⟩
 | cut a l f B _=>
  have:=(first a l f).2.1;rw [B] at this;cases this
 | @solved g gs t st a l f B V hB=>
  refine ⟨fun G h=>?_,fun h=>by cases h⟩;cases h;obtain ⟨O,_,Z⟩:=first a l f
  rcases hc with ⟨c1,σ,c2,c3,M⟩|hc
  ·have hl:=(hB.good j.good V O.1).len;refine .inl ⟨by show 26<=st.length;omega,σ,?_,c3,fun x N=>M x (by rw [a];exact bk _ N)⟩;exact (hS.blt _ _ t 0 σ j.good O.1 V c2 (by rw [Z σ c2];exact M g (by rw [a];simp)) hB).2 rfl
  ·exact .inr hc
 | @fail g gs t st o a l f B V hB O=>
  obtain ⟨D,_,Z⟩:=first a l f
  rcases hc with ⟨c1,σ,c2,c3,M⟩|hc
  ·exact absurd rfl (hS.blt _ _ t 1 σ j.good D.1 V c2 (by rw [Z σ c2];exact M g (by rw [a];simp)) hB).1
  ·exact J (be _) O hc
 | @took g gs t r m a l f B V hf hT=>
  refine ⟨fun G h=>?_,fun h=>by cases h⟩;cases h;obtain ⟨D,_,Z⟩:=first a l f
  rcases hc with ⟨c1,σ,c2,c3,M⟩|⟨c,hc,Y⟩
  ·have hP:=M g (by rw [a];simp);rw [<- Z σ c2] at hP;have q:sameHd t (sbT σ t):=by
    have U:=hn.goals g (by rw [a];simp);have hk:t.kind≠1:=by have:=(U.hd (vD l (by have:=U.1;omega))).1;omega
    rw [oj σ hk];exact ⟨rfl,rfl,by simp [T.kids,p8]⟩
   obtain ⟨i,hi,hm⟩:=hS.cl _ hP (by rw [sD q];exact B) (by rw [gz q];exact V);have a0:i∈hH p t:=by
    unfold hH at hi ⊢
    rwa [kQ q] at hi
   obtain ⟨r',e,k⟩:=Ij hQ hp hT j.good j.tab D c1 (fun x N=>(j.goals x (by rw [a];exact bk _ N)).1) c2 c3 (fun x N=>M x (by rw [a];exact bk _ N)) a0 hm;cases e;exact k _ _ _
  ·exact .inr ⟨c,P1 hc,Y⟩
 | @back g gs t m o a l f B V hf hT O=>
  obtain ⟨D,_,Z⟩:=first a l f
  rcases hc with ⟨c1,σ,c2,c3,M⟩|hc
  ·have hP:=M g (by rw [a];simp);rw [<- Z σ c2] at hP;have q:sameHd t (sbT σ t):=by
    have U:=hn.goals g (by rw [a];simp);have hk:t.kind≠1:=by have:=(U.hd (vD l (by have:=U.1;omega))).1;omega
    rw [oj σ hk];exact ⟨rfl,rfl,by simp [T.kids,p8]⟩
   obtain ⟨i,hi,hm⟩:=hS.cl _ hP (by rw [sD q];exact B) (by rw [gz q];exact V);have a0:i∈hH p t:=by
    unfold hH at hi ⊢
    rwa [kQ q] at hi
   obtain ⟨r',e,k⟩:=Ij (rest:=gs) hQ hp hT j.good j.tab D c1 (fun x N=>(j.goals x (by rw [a];exact bk _ N)).1) c2 c3 (fun x N=>M x (by rw [a];exact bk _ N)) a0 hm;cases e
  ·exact J (hT.ok hp j.good j.tab D).1 O hc
theorem RunI.keeps {p:List C} {vars:List Int} {most n:Nat} {s:SI} {out:List (List T)} {r:List (List T) × Int} (h:RunI p vars most n s out r):∀ x∈out,x∈r.1:=by
 induction h with
 | fuel=>exact fun x a=>a
 | stop=>exact fun x a=>a
 | more=>exact fun x a=>a
 | large=>exact fun x a=>a
 | step _ _ _ f=>exact f
 | last=>exact fun x a=>dO _ a
 | next _ _ _ _ _ f=>exact fun x a=>f x (dO _ a)
theorem QM (σ:Int->T):∀ l:List Int,sbL σ (l.map Td)=l.map σ
 | []=>rfl
 | n::l=>by
  rw [qD,sbL,QM σ l,Td,sbT,ai rfl];rfl
theorem ValsI.inst {st:au} (i:Good st.length st) {vars:List Int} (j:∀ n∈vars,0<=n/\n<st.length) {vs:List T} (h:ValsI st vars (some vs)) {σ:Int->T} (l:kW σ st):∃ ρ,sbL ρ vs=vars.map σ:=by
 obtain ⟨us,a,f⟩:=h;split at f
 ·cases f;obtain ⟨ρ,o⟩:=XM us σ;refine ⟨ρ,?_⟩;have g:du st.length (vars.map Td):=oe fun t m=>by
   obtain ⟨n,hn,rfl⟩:=eV.1 m;exact Bu (j n hn)
  rw [o,OJ i l a g,QM]
 ·cases f
theorem RunI.cov {p:List C} {P:T->Prop} (j:∀ cl∈p,kB cl) (q:acR p P) (t:∀ cl∈p,∀ b∈cl.body,ncT b) {vars:List Int} {θ:Int->T} (l:∀ n∈vars,0<=n/\n<26) {most n:Nat} {s:SI} {out:List (List T)} {r:List (List T) × Int} (h:RunI p vars most n s out r) :
  tz p.length s->Nc ncT s->Qp p P (fun σ=>∀ n∈vars,σ n=θ n) s->r.2=0->∃ vs∈r.1,∃ ρ,sbL ρ vs=vars.map θ:=by
 have m:abm fun σ:Int->T=>∀ n∈vars,σ n=θ n:=fun σ τ B h n hn=>by rw [<- B n (l n hn).1 (l n hn).2];exact h n hn
 have ans:∀ {s:SI} {vs:List T},tz p.length s->ad5 P (fun σ=>∀ n∈vars,σ n=θ n) s.st s.goals->ValsI s.st vars (some vs)->∃ ρ,sbL ρ vs=vars.map θ:=by
  intro s vs f hc a;obtain ⟨N,σ,c2,D,_⟩:=hc;obtain ⟨ρ,G⟩:=a.inst f.good (fun n hn=>⟨(l n hn).1,by have:=(l n hn).2;omega⟩) c2;exact ⟨ρ,G.trans (List.map_congr_left D)⟩
 induction h with
 | fuel=>intro _ _ _ h;cases h
 | more=>intro _ _ _ h;cases h
 | large=>intro _ _ _ h;cases h
 | stop _ g=>intro f hn hc h;exact absurd h ((g.cov m j q f hn hc).2 rfl)
 | step _ g _ o=>
  intro f hn hc h;exact o (g.ok j f _ rfl).1 (g.nc Oy t hn _ rfl) ((g.cov m j q f hn hc).1 _ rfl) h
 | last _ _ a i=>
  intro f hn hc h;rcases hc with hc|hc
  ·exact ⟨_,im _ (cE.2 rfl),ans f hc a⟩
  ·obtain ⟨_,e,_⟩:=i.cov m j f.chs hc;cases e
 | next _ _ a i M o=>
  intro f hn hc h;rcases hc with hc|hc
  ·exact ⟨_,M.keeps _ (im _ (cE.2 rfl)),ans f hc a⟩
  ·obtain ⟨_,e,J⟩:=i.cov m j f.chs hc;cases e;exact o (i.ok j f.chs _ rfl).1 (i.nc Oy t hn.chs _ rfl) J h
end
end Go.Proofs.YtellfcpffcipcaaGreatDoor
