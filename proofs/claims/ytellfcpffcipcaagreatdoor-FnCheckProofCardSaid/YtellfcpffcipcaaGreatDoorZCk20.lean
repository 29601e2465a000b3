/- spec: what holds of all parts of a term (numbers are small, only structures have names), and who keeps it. -/
import Derived.Test.YtellfcpffcipcaaGreatDoorZCkA
import Derived.Test.YtellfcpffcipcaaGreatDoorZCk19
namespace Go.Proofs.YtellfcpffcipcaaGreatDoor
section
open Go Go.RowKit
mutual
def okM:T->Prop
 | .mk k n s ks=>(k=2->-999<=n/\n<=999)/\(k≠3->s=emptyB)/\ri ks
def ri:List T->Prop
 | []=>True
 | t::ts=>okM t/\ri ts
end
theorem vV:∀ {ts:List T},ri ts->∀ t∈ts,okM t
 | t::ts,h,x,a=>by
  rw [ri] at h;rcases cw.1 a with rfl|a
  ·exact h.1
  ·exact vV h.2 x a
theorem WX:∀ {ts:List T},(∀ t∈ts,okM t)->ri ts
 | [],_=>by rw [ri];trivial
 | t::ts,h=>by rw [ri];exact ⟨h t (bi ..),WX fun u a=>h u (bk _ a)⟩
theorem okM.kids {t:T} (h:okM t):ri t.kids:=by cases t; rw [okM] at h; exact h.2.2
mutual
theorem okM.okN:∀ {t:T},okM t->okN t
 | .mk k n s ks,h=>by
  rw [okM] at h;rw [Go.Proofs.YtellfcpffcipcaaGreatDoor.okN];exact ⟨h.1,St h.2.2⟩
theorem St:∀ {ts:List T},ri ts->Ew ts
 | [],_=>by rw [Ew]; trivial
 | t::ts,h=>by
  rw [ri] at h;rw [Ew];exact ⟨okM.okN h.1,St h.2⟩
end
mutual
theorem MS:∀ (t:T) (d:Int),ik t d=true->okM t
 | .mk k n s ks,d,h=>by
  rw [ik] at h;split at h
  ·cases h
  rw [aZ] at h;obtain ⟨a,hk⟩:=h;rw [okM];have g:k=2->(-999<=n/\n<=999)/\s=emptyB:=by
   intro e;subst e;have f:fp (.mk 2 n s ks)=(decide (-999<=n) && (decide (n<=999) && (decide (s=emptyB) && decide (ks.length=0)))):=by
    rw [fp]; exact (af (show ¬ (2:Int)=1 by decide)).trans (ai rfl)
   rw [f,aZ,aZ,aZ] at a;exact ⟨⟨of_decide_eq_true a.1,of_decide_eq_true a.2.1⟩,of_decide_eq_true a.2.2.1⟩
  refine ⟨fun e=>(g e).1,fun e=>?_,Jo ks _ hk⟩;by_cases e2:k=2
  ·exact (g e2).2
  ·have a:(if k=1 then decide (0<=n) && (decide (n<=25) && (decide (s=emptyB) && decide (ks.length=0))) else if k=2 then decide (-999<=n) && (decide (n<=999) && (decide (s=emptyB) && decide (ks.length=0))) else if k=3 then decide (n=0) && (nR s && decide (ks.length<=4)) else false)=true:=a;rw [af e2,af e] at a;split at a
   ·simp only [aZ,bt] at a;exact a.2.2.1
   ·cases a
theorem Jo:∀ (ts:List T) (d:Int),ia ts d=true->ri ts
 | [],_,_=>by rw [ri]; trivial
 | t::ts,d,h=>by
  rw [ia,aZ] at h;rw [ri];exact ⟨MS t d h.1,Jo ts d h.2⟩
end
theorem r9 {t:T} (h:dP t=true):okM t:=MS t 30 (uT h)
mutual
theorem ow (m:Int):∀ t:T,okM t->okM (bD m t)
 | .mk k n s ks,h=>by
  rw [okM] at h;rw [bD,okM];refine ⟨fun e=>?_,h.2.1,Kg m ks h.2.2⟩;rw [af (by omega)];exact h.1 e
theorem Kg (m:Int):∀ ts:List T,ri ts->ri (gw m ts)
 | [],_=>by rw [gw,ri]; trivial
 | t::ts,h=>by
  rw [ri] at h;rw [gw,ri];exact ⟨ow m t h.1,Kg m ts h.2⟩
end
def tabM (st:au):Prop:=∀ t,some t∈st->okM t
theorem tabM.set {st:au} (h:tabM st) {n:Nat} {t:T} (f:okM t):tabM (st.set n (some t)):=by
 intro u a;rcases DS a with a|a
 ·exact h u a
 ·rw [aY] at a;subst a;exact f
theorem tabM.look {st:au} (h:tabM st) {t u:T} (hl:look st t=some u):okM u:=h u (cJ (dC.1 hl).2)
theorem tabM.walk {st:au} (h:tabM st) {t v:T} (a:dL st t v) (f:okM t):okM v:=by
 induction a with
 | stop=>exact f
 | step hl _ g=>exact g (h.look hl)
theorem tabM.grow {st:au} (h:tabM st) (k:Nat):tabM (st++List.replicate k none):=by
 intro t a;rcases ci.1 a with a|a
 ·exact h t a
 ·have:=Wa a;cases this
theorem tabM.none (k:Nat):tabM (List.replicate k none):=by
 intro t a;have:=Wa a;cases this
def abU:Job->Prop
 | .one a b=>okM a/\okM b
 | .list xs ys=>(∀ a∈xs,okM a)/\∀ b∈ys,okM b
theorem Uni.okM {st l:au} {j:Job} {r:Bool} (t:Uni st j r l):tabM st->abU j->tabM l:=by
 induction t with
 | same=>exact fun h _=>h
 | occA=>exact fun h _=>h
 | occB=>exact fun h _=>h
 | clash=>exact fun h _=>h
 | nil=>exact fun h _=>h
 | bindA g i _ _ _=>exact fun h f=>h.set (h.walk i f.2)
 | bindB g i _ _ _=>exact fun h f=>h.set (h.walk g f.1)
 | kids g i _ _ _ _ m=>exact fun h f=>m h ⟨vV (h.walk g f.1).kids,vV (h.walk i f.2).kids⟩
 | stop _ m=>exact fun h f=>m h ⟨f.1 _ (bi ..),f.2 _ (bi ..)⟩
 | go _ _ o q=>
  exact fun h f=>q (o h ⟨f.1 _ (bi ..),f.2 _ (bi ..)⟩) ⟨fun a g=>f.1 a (bk _ g),fun b i=>f.2 b (bk _ i)⟩
theorem Res.okM {st:au} (m:tabM st) {j:Nz} (h:Res st j):match j with
  | .one t u=>okM t->okM u
  | .list ts us=>(∀ t∈ts,okM t)->∀ u∈us,okM u:=by
 induction h with
 | @one t v us o _ q=>
  intro f;have g:=m.walk o f;have hk:=q (vV g.kids);cases v;rw [Go.Proofs.YtellfcpffcipcaaGreatDoor.okM] at g ⊢;exact ⟨g.1,g.2.1,WX hk⟩
 | nil=>intro _ u a;cases a
 | cons _ _ i l=>
  intro f u a;rcases cw.1 a with rfl|a
  ·exact i (f _ (bi ..))
  ·exact l (fun t h=>f t (bk _ h)) u a
theorem okM.kd {g:T} (h:okM g) (i:Nat):okM (kd g i):=by
 rw [Go.Proofs.YtellfcpffcipcaaGreatDoor.kd,MI];cases e:g.kids[i]? with
 | none=>
  simp only [Option.getD_none];rw [zT,Go.Proofs.YtellfcpffcipcaaGreatDoor.okM,ri];exact ⟨fun e=>(by cases e),fun _=>rfl,trivial⟩
 | some u=>exact vV h.kids u (cJ e)
theorem aaN {n:Int} (h:Sm n):okM (KX n):=by
 rw [KX,okM,ri];exact ⟨fun _=>h,fun _=>rfl,trivial⟩
def adh:BJ->Prop
 | .done _=>True
 | .uni a b=>abU (.one a b)
 | .not a b=>abU (.one a b)
theorem acK {g:T} (h:okM g):adh (fx g):=by
 unfold fx;split
 ·trivial
 split
 ·trivial
 split
 ·exact ⟨h.kd _,h.kd _⟩
 split
 ·exact ⟨h.kd _,h.kd _⟩
 split
 ·trivial
 split
 ·split
  ·trivial
  ·exact ⟨h.kd _,aaN (oW _ (h.kd _).okN)⟩
 split
 ·unfold uS;split
  ·trivial
  split
  ·trivial
  split
  ·trivial
  ·exact ⟨h.kd _,(h.kd _).kd _⟩
 split
 ·trivial
 ·trivial
theorem Blt.okM {st f:au} {g:T} {c:Int} (i:tabM st) (l:okM g) (h:Blt st g c f):tabM f:=by
 have j:=acK l;unfold Blt at h
 match hb:fx g,h,j with
 | .done c,h,_=>exact h.2 ▸ i
 | .uni a b,⟨r,hu,_⟩,j=>exact hu.okM i j
 | .not a b,h,_=>exact h.1 ▸ i
theorem Oo (n:Int):eN emptyB n=false:=by
 rw [eN,af (by decide +kernel),af (by decide +kernel),af (by decide +kernel),af (by decide +kernel)]
theorem aap {u:T} (h:okM u):eN u.name u.kids.length=bW u:=by
 cases u with
 | mk k n s a=>
  rw [okM] at h;show eN s a.length=(decide (k=3) && eN s a.length);by_cases e:k=3
  ·subst e;rfl
  ·rw [show (decide (k=3) && eN s a.length)=false by rw [aS e];rfl,h.2.1 e,Oo]
end
section
open Go Go.RowKit
structure BF (cl:C):Prop where
 cf:zm cl
 hd:okM cl.head
 bd:∀ t∈cl.body,okM t
 fr:mt cl<=26
 ln:cl.body.length<=6
 w:wC cl<=1048576
 vs:∀ x∈ef (cl.head::cl.body) [],0<=x/\x<1000000
mutual
theorem Yp {M N:Nat}:∀ t:T,okU M t->(∀ m∈vT t,m<N)->okU N t
 | .mk k n s ks,h,hv=>by
  rw [okU] at h ⊢;rw [vT] at hv;refine ⟨h.1,fun e=>?_,?_,h.2.2.2⟩
  ·obtain ⟨a,g,f⟩:=h.2.1 e;have:=hv n.toNat (by rw [ai e]; exact cE.2 rfl);exact ⟨a,by omega,f⟩
  ·by_cases e:k=1
   ·rw [(h.2.1 e).2.2.2,du]; trivial
   ·rw [af e] at hv;exact DQ ks h.2.2.1 hv
theorem DQ {M N:Nat}:∀ ts:List T,du M ts->(∀ m∈vTL ts,m<N)->du N ts
 | [],_,_=>by rw [du]; trivial
 | t::ts,h,hv=>by
  rw [du] at h ⊢;rw [vTL] at hv;exact ⟨Yp t h.1 fun m a=>hv m (dO _ a),DQ ts h.2 fun m a=>hv m (im _ a)⟩
end
theorem Fa {cl:C} (h:cz cl=true):BF cl:=by
 obtain ⟨V,Y,_⟩:=iJ h;have B:du 26 (cl.head::cl.body):=by rw [du];exact ⟨V,oe Y⟩
 have g:=zn (cl.head::cl.body) [] B;have D:=h;rw [cz] at D;simp only [aZ,bt,eX] at D;obtain ⟨hl,l,o,_⟩:=D;have G:∀ m∈vTL (cl.head::cl.body),m<26:=UT _ B;have J:∀ m∈vTL (cl.head::cl.body),m<(mt cl).toNat:=by
  intro m r;have:=(Dn (ef (cl.head::cl.body) []) 0).2 m ((g m).2 (.inr ⟨m,r,rfl⟩));rw [mt];omega
 have M:=DQ _ B J;rw [du] at M;have Z:=lr o;have q:∀ t∈cl.body,wT t<=840:=fun t j=>lr (eL (l t j));have i:∀ x∈ef (cl.head::cl.body) [],0<=x/\x<26:=by
  intro x f;rcases (g x).1 f with f|⟨m,r,rfl⟩
  ·cases f
  ·have:=G m r;omega
 have N:∀ ts:List T,(∀ t∈ts,wT t<=840)->wL ts<=841 * ts.length:=by
  intro ts;induction ts with
  | nil=>intro _;simp [wL]
  | cons t ts ih=>
   intro O;have a:=O t (bi ..);have b:=ih fun u U=>O u (bk _ U);simp only [wL,bI];omega
 have:=N _ q;refine ⟨⟨⟨M.1,by omega⟩,fun t j=>⟨mN M.2 t j,by have:=q t j;omega⟩⟩,r9 o,fun t j=>r9 (eL (l t j)),?_,hl,?_,fun x f=>⟨(i x f).1,by have:=(i x f).2;omega⟩⟩
 ·exact M7 26 _ 0 (by omega) fun x f=>(i x f).2
 ·unfold wC;omega
structure okRk (k:Nat) (c:Ch):Prop where
 nb:c.binds.length<=26+26 * k
 nr:c.rest.length<=1+6 * k
 tab:tabM c.binds
 goal:okM c.goal
 rest:∀ g∈c.rest,okM g.1
 pos:0<c.binds.length
def okLp (N:Nat) (l:List Sp):Prop:=∀ x∈l,(okU N x.goal/\wT x.goal<=1048576)/\0<=x.body/\x.body<=6/\-1<=x.clause/\x.clause<=1000000
structure okXk (k:Nat) (s:Se):Prop where
 nb:s.st.binds.length<=26+26 * k
 ng:s.st.goals.length<=1+6 * k
 nc:s.st.chs.length<=k
 ns:s.steps.length<=k
 tab:tabM s.st.binds
 goals:∀ g∈s.st.goals,okM g.1
 chs:∀ c∈s.st.chs,okRk k c
 steps:okLp s.st.binds.length s.steps
 saved:∀ i (h:i<s.st.chs.length) (h':i<s.saved.length),okLp s.st.chs[i].binds.length s.saved[i]
 nv:∀ l∈s.saved,l.length<=k
 pos:0<s.st.binds.length
theorem okRk.up {k:Nat} {c:Ch} (h:okRk k c):okRk (k+1) c:=⟨by have:=h.nb; omega,by have:=h.nr; omega,h.tab,h.goal,h.rest,h.pos⟩
theorem okLp.mono {N M:Nat} {l:List Sp} (h:okLp N l) (f:N<=M):okLp M l:=fun x a=>⟨⟨iK f _ (h x a).1.1,(h x a).1.2⟩,(h x a).2⟩
theorem okXk.up {k:Nat} {s:Se} (h:okXk k s):okXk (k+1) s:=
 ⟨by have:=h.nb;omega,by have:=h.ng;omega,by have:=h.nc;omega,by have:=h.ns;omega,h.tab,h.goals,fun c hc=>(h.chs c hc).up,h.steps,h.saved,fun l hl=>by have:=h.nv l hl;omega,h.pos⟩
theorem FirstL.of {p:List C} {chs:List Ch} {c:Ch} {l:List Int} {o:Option (St6 × Int × List Int)} (h:FirstL p chs c l o):∀ s i r,o=some (s,i,r)->
  ∃ (n:Nat) (cl:C) (st:au),i=n/\p[n]?=some cl/\s=qk chs c cl [] st/\Uni (GC c.binds cl) (.one c.goal (bD c.binds.length cl.head)) true st:=by
 induction h with
 | nil=>intro s i r h;cases h
 | miss _ _ a=>exact a
 | hit f=>
  intro s i r h;simp only [aY,cV] at h;obtain ⟨rfl,rfl,rfl⟩:=h;cases f with
  | hit g j=>exact ⟨_,_,_,rfl,g,rfl,j⟩
  | miss _ _ h=>cases h
theorem TakeR.okXk {p:List C} (hp:∀ cl∈p,BF cl) (a3:p.length<=1000000) {k:Nat} {s s':Se} {c:Ch} (h:TakeR p s c (some s')) (hc:od c) (a:okRk k c) (hn:s.saved.length=s.st.chs.length)
  (U:∀ d∈s.st.chs,okRk k d) (a4:s.st.chs.length<=k) (r:okLp c.binds.length s.steps) (a5:s.steps.length<=k)
  (B:∀ i (h:i<s.st.chs.length) (h':i<s.saved.length),okLp s.st.chs[i].binds.length s.saved[i]) (D:∀ l∈s.saved,l.length<=k):okXk (k+1) s':=by
 cases h with
 | @yes u i l hF=>
  obtain ⟨n,cl,st,rfl,V,rfl,hu⟩:=hF.of _ _ _ rfl;have G:=hp cl (cJ V);obtain ⟨m,_⟩:=hu.good (xf hc cl) (Hl hc G.cf);have J:tabM st:=hu.okM (a.tab.grow _) ⟨a.goal,ow _ _ G.hd⟩;have a2:=m.len;have a6:=G.fr;have a7:=G.ln;have Y:=a.nb;have Z:=a.nr;have M:=a.pos;have a0:okRk (k+1) ⟨c.goal,c.rest,l,c.binds⟩:=okRk.up ⟨Y,Z,a.tab,a.goal,a.rest,M⟩;refine ⟨?_,?_,?_,?_,J,?_,?_,?_,?_,?_,?_⟩
  ·simp only [lN,qk];omega
  ·simp only [lN,qk,bK,nN];omega
  ·simp only [lN,bK];split <;> simp <;> omega
  ·simp only [lN,bK,sg];omega
  ·intro g m;simp only [lN,qk] at m;rcases ci.1 m with m|m
   ·obtain ⟨t,ht,rfl⟩:=eV.1 m;exact ow _ _ (G.bd t ht)
   ·exact a.rest g m
  ·intro d hd;simp only [lN] at hd;rcases ci.1 hd with hd|hd
   ·exact (U d hd).up
   ·split at hd
    ·cases hd
    ·rw [cE] at hd;subst hd;exact a0
  ·intro x o;simp only [lN,qk] at o ⊢;rcases ci.1 o with o|o
   ·exact r.mono (by omega) x o
   ·rw [cE] at o;subst o;simp only [dq,V,Ty];exact ⟨⟨iK (by omega) _ hc.goal.1,hc.goal.2⟩,by omega,by omega,by omega,by have:=(fS.1 V).1;omega⟩
  ·intro j N O;simp only [lN] at N O ⊢;by_cases hl:l=[]
   ·subst hl;simp only [ai,dc] at N O ⊢;exact B j N O
   ·simp only [af hl,bK,sg] at N O ⊢;by_cases hk:j<s.st.chs.length
    ·rw [iO hk,iO (by omega)];exact B j hk (by omega)
    ·have a1:j=s.st.chs.length:=by omega
     subst a1;rw [gF (be _),gF (by omega)];simp only [hn,fH,pi];exact r
  ·intro q f;simp only [lN] at f;rcases ci.1 f with f|f
   ·have:=D q f;omega
   ·split at f
    ·cases f
    ·rw [cE] at f;subst f;omega
  ·simp only [lN,qk];omega
def okBL (cs:List Ch) (ss:List (List Sp)):Prop:=∀ i (h:i<cs.length) (h':i<ss.length),okLp cs[i].binds.length ss[i]
theorem okBL.last {cs:List Ch} {a:List (List Sp)} {c:Ch} {t:List Sp} (h:okBL (cs++[c]) (a++[t])) (hl:cs.length=a.length):okBL cs a/\okLp c.binds.length t:=by
 constructor
 ·intro i f g;have:=h i (by simp;omega) (by simp;omega);rw [iO f,iO g] at this;exact this
 ·have:=h cs.length (by simp) (by simp [hl]);rw [gF (be _),gF (by omega)] at this;simp only [hl,fH,pi] at this;exact this
theorem BackR.okXk {p:List C} (m:∀ cl∈p,BF cl) (i:p.length<=1000000) {k:Nat} {cs:List Ch} {f:List (List Sp)} {o:Option Se} (h:BackR p cs f o):cs.length=f.length->(∀ c∈cs,od c/\okRk k c)->cs.length<=k->okBL cs f->(∀ l∈f,l.length<=k)->∀ s,o=some s->Go.Proofs.YtellfcpffcipcaaGreatDoor.okXk (k+1) s:=by
 induction h with
 | nil=>intro _ _ _ _ _ s h;cases h
 | hit t=>
  intro hl a hk j g s h;simp only [bK,sg,zL] at hl hk;rw [aY] at h;subst h;obtain ⟨q,r⟩:=j.last hl;exact t.okXk m i (a _ (by simp)).1 (a _ (by simp)).2 hl.symm (fun d hd=>(a d (dO _ hd)).2) (by simp only;omega) r (g _ (by simp)) q fun l hl=>g l (dO _ hl)
 | miss _ _ B=>
  intro hl a hk j g;simp only [bK,sg,zL] at hl hk;exact B hl (fun d hd=>a d (dO _ hd)) (by omega) (j.last hl).1 fun l hl=>g l (dO _ hl)
theorem OneR.okXk {p:List C} (O:∀ cl∈p,BF cl) (D:p.length<=1000000) {k:Nat} {s G:Se} {e:Int} (h:OneR p s G e) (r:qC p.length s) (a:okXk k s):okXk (k+1) G/\(e=-2->G=s):=by
 have j:=r.st.goals;have f:=a.goals;cases h with
 | big=>exact ⟨a.up,fun _=>rfl⟩
 | stuck=>exact ⟨a.up,fun _=>rfl⟩
 | fail=>exact ⟨a.up,fun _=>rfl⟩
 | err=>exact ⟨a.up,fun _=>rfl⟩
 | @took g rest u _ t B q _ _ Z=>
  rw [t] at j f;have i:=kz r.st.good B (j _ (bi ..)).1;have U:=gG q i;have m:okM u:=Res.okM a.tab B (f _ (bi ..));have o:=a.ng;rw [t,bI] at o;refine ⟨Z.okXk O D ⟨r.st.good,⟨i,by simp only;omega⟩,fun x a=>j x (bk _ a)⟩ ⟨a.nb,by simp only;omega,a.tab,m,fun x a=>f x (bk _ a),a.pos⟩ r.len a.chs a.nc a.steps a.ns a.saved a.nv,fun e=>(by cases e)⟩
 | @solved g rest u st t B q _ hb N=>
  rw [t] at j f;have i:=kz r.st.good B (j _ (bi ..)).1;have U:=gG q i;have m:okM u:=Res.okM a.tab B (f _ (bi ..));have J:=N.good r.st.good hb ⟨i,by omega⟩;have hl:=J.len;have o:=a.ng;rw [t,bI] at o;have V:=a.nb;have Y:=a.ns;have M:=a.pos;refine ⟨⟨by simp only;omega,by simp only;omega,by have:=a.nc;simp only;omega,by simp only [bK,sg];omega,N.okM a.tab m,fun x h=>f x (bk _ h),fun c hc=>(a.chs c hc).up,?_,a.saved,fun l hl=>by have:=a.nv l hl;omega,by simp only;omega⟩,fun e=>(by cases e)⟩;intro x h;simp only at h ⊢;rw [hl];rcases ci.1 h with h|h
  ·exact a.steps x h
  ·rw [cE] at h;subst h;exact ⟨⟨i,by simp only;omega⟩,by simp,by simp,by simp,by simp⟩
theorem I6 {t:T} (f:okM t):okXk 0 (jh t):=by
 refine ⟨by simp [jh],by simp [jh],by simp [jh],by simp [jh],tabM.none 26,?_,fun c hc=>(by cases hc),fun x j=>(by cases j),fun i h=>(by simp [jh] at h),fun l hl=>(by cases hl),by simp [jh]⟩;intro g a;simp only [jh,cE] at a;subst a;exact ow _ _ f
theorem Srch.okXk {p:List C} (i:∀ cl∈p,BF cl) (f:p.length<=1000000) {n:Nat} {s:Se} {o:Option Se} (h:Srch p n s o):∀ k,qC p.length s->Go.Proofs.YtellfcpffcipcaaGreatDoor.okXk k s->∀ t,o=some t->Go.Proofs.YtellfcpffcipcaaGreatDoor.okXk (k+n) t:=by
 induction h with
 | @done n s q=>
  intro k j m t h;rw [aY] at h;subst h;induction n with
  | zero=>exact m
  | succ n l=>exact l.up
 | out=>intro _ _ _ t h;cases h
 | halt=>intro _ _ _ t h;cases h
 | stop=>intro _ _ _ t h;cases h
 | @step n _ _ _ q j _ l=>
  intro k a g t h;have:=l (k+1) (j.ok (fun cl hc=>(i cl hc).cf) a) (j.okXk i f a g).1 t h
  rwa [show k+(n+1)=k+1+n by omega]
 | @back n _ B _ _ q j m _ l=>
  intro k a g t h;have r:=j.ok (fun cl hc=>(i cl hc).cf) a;have e:=(j.okXk i f a g).2 rfl;subst e;have:=l (k+1) (m.ok (fun cl hc=>(i cl hc).cf) a.len.symm a.st.chs a.left _ rfl) (m.okXk i f a.len.symm (fun c hc=>⟨a.st.chs c hc,g.chs c hc⟩) g.nc g.saved g.nv _ rfl) t h
  rwa [show k+(n+1)=k+1+n by omega]
end
section
open Go Go.RowKit
structure GI where
 t:T
 cut:Int
 up:Int
structure CI where
 goal:T
 node:Int
 rest:List GI
 left:List Int
 binds:au
 taken:Nat
structure NI where
 goal:T
 up:Int
 clause:Int
structure SI where
 st:au
 goals:List GI
 chs:List CI
 nodes:List NI
def g26 (st:au):au:=st++List.replicate 26 none
def ct (st:au) (n:Nat):au:=st++List.replicate (n - st.length) none
theorem mw (st:au):(g26 st).length=st.length+26:=by simp [g26]
theorem dj {st:au} {n:Nat} (h:st.length<=n):(ct st n).length=n:=by simp [ct]; omega
theorem zC {st:au} {n:Nat} (h:st.length<=n):g26 (ct st n)=ct st (n+26):=by
 unfold g26 ct;rw [eY,Vg]
 congr 2
 omega
theorem kR (st:au):ct st st.length=st:=by simp [ct]
theorem TT (st:au):g26 st=ct st (st.length+26):=by
 rw [<- zC (be _),kR]
structure HI where
 i:Nat
 cl:C
 by_:Nat
 l:List Int
 st:au
inductive TryI (p:List C) (g:T):List Int->au->Option HI->Nat->Prop
 | nil {st:au}:TryI p g [] st none st.length
 | hit {i:Nat} {l:List Int} {cl:C} {st st':au}:p[i]?=some cl->Uni (g26 st) (.one g (bD st.length cl.head)) true st'->TryI p g ((i:Int)::l) st (some ⟨i,cl,st.length,l,st'⟩) (st.length+26)
 | miss {i:Nat} {l:List Int} {cl:C} {st st':au} {o:Option HI} {n:Nat}:p[i]?=some cl->Uni (g26 st) (.one g (bD st.length cl.head)) false st'->TryI p g l (g26 st) o n->TryI p g ((i:Int)::l) st o n
def nf (cl:C) (by_:Nat) (cut up:Int) (rest:List GI):List GI:=cl.body.map (fun t=>⟨bD by_ t,cut,up⟩)++rest
def OX (ns:List NI) (at_:Nat) (i:Int):List NI:=ns.modify at_ fun x=>⟨x.goal,x.up,i⟩
def jj (chs:List CI) (nodes:List NI) (g:T) (at_:Int) (rest:List GI) (b:au) (r:HI):SI:=
 ⟨r.st,nf r.cl r.by_ chs.length at_ rest,chs++(if r.l=[] then [] else [⟨g,at_,rest,r.l,b,nodes.length⟩]),OX nodes at_.toNat r.i⟩
inductive BackI (p:List C):List CI->Nat->List NI->Option SI->Prop
 | nil {n:Nat} {ns:List NI}:BackI p [] n ns none
 | hit {cs:List CI} {c:CI} {n m:Nat} {ns:List NI} {r:HI}:TryI p c.goal c.left (ct c.binds n) (some r) m->BackI p (cs++[c]) n ns (some (jj cs (ns.take c.taken) c.goal c.node c.rest (ct c.binds n) r))
 | miss {cs:List CI} {c:CI} {n m:Nat} {ns:List NI} {o:Option SI}:TryI p c.goal c.left (ct c.binds n) none m->BackI p cs m (ns.take c.taken) o->BackI p (cs++[c]) n ns o
def Q0 (c:Int):Int:=if c=2 then 4 else if c=3 then 5 else if c=4 then 6 else 7
inductive StepI (p:List C) (nc:Bool) (s:SI):Option SI->Int->Prop
 | large {g:GI} {gs:List GI} {t:T}:s.goals=g::gs->Res s.st (.one g.t t)->bL t=false->StepI p nc s none 3
 | noCut {g:GI} {gs:List GI} {t:T}:s.goals=g::gs->Res s.st (.one g.t t)->bL t=true->fC t=true->nc=true->StepI p nc s none 0
 | cut {g:GI} {gs:List GI} {t:T}:s.goals=g::gs->Res s.st (.one g.t t)->bL t=true->fC t=true->nc=false->
   StepI p nc s (some ⟨s.st,gs,s.chs.take g.cut.toNat,s.nodes++[⟨t,g.up,-1⟩]⟩) (-1)
 | solved {g:GI} {gs:List GI} {t:T} {st:au}:s.goals=g::gs->Res s.st (.one g.t t)->bL t=true->fC t=false->bW t=true->Blt s.st t 0 st->
   StepI p nc s (some ⟨st,gs,s.chs,s.nodes++[⟨t,g.up,-1⟩]⟩) (-1)
 | fail {g:GI} {gs:List GI} {t:T} {st:au} {o:Option SI}:s.goals=g::gs->Res s.st (.one g.t t)->bL t=true->fC t=false->bW t=true->Blt s.st t 1 st->
   BackI p s.chs s.st.length (s.nodes++[⟨t,g.up,-1⟩]) o->StepI p nc s o (if o.isSome then -1 else 0)
 | err {g:GI} {gs:List GI} {t:T} {st:au} {c:Int}:s.goals=g::gs->Res s.st (.one g.t t)->bL t=true->fC t=false->bW t=true->Blt s.st t c st->c≠0->c≠1->StepI p nc s none (Q0 c)
 | unknown {g:GI} {gs:List GI} {t:T}:s.goals=g::gs->Res s.st (.one g.t t)->bL t=true->fC t=false->bW t=false->hH p t=[]->StepI p nc s none 8
 | took {g:GI} {gs:List GI} {t:T} {r:HI} {m:Nat}:s.goals=g::gs->Res s.st (.one g.t t)->bL t=true->fC t=false->bW t=false->hH p t≠[]->
   TryI p t (hH p t) s.st (some r) m->StepI p nc s (some (jj s.chs (s.nodes++[⟨t,g.up,-1⟩]) t s.nodes.length gs s.st r)) (-1)
 | back {g:GI} {gs:List GI} {t:T} {m:Nat} {o:Option SI}:s.goals=g::gs->Res s.st (.one g.t t)->bL t=true->fC t=false->bW t=false->hH p t≠[]->
   TryI p t (hH p t) s.st none m->BackI p s.chs m (s.nodes++[⟨t,g.up,-1⟩]) o->StepI p nc s o (if o.isSome then -1 else 0)
def Td (n:Int):T:=.mk 1 n emptyB []
def ValsI (st:au) (vars:List Int) (o:Option (List T)):Prop:=∃ us,Res st (.list (vars.map Td) us)/\
 o=if us.all bL=true/\(fm us []).length<=26 then some (kU (fm us []) us) else none
inductive RunI (p:List C) (vars:List Int) (most:Nat):Nat->SI->List (List T)->List (List T) × Int->Prop
 | fuel {s:SI} {out:List (List T)}:s.goals≠[]->RunI p vars most 0 s out (out,2)
 | stop {n:Nat} {s:SI} {out:List (List T)} {e:Int}:s.goals≠[]->StepI p false s none e->RunI p vars most (n+1) s out (out,e)
 | step {n:Nat} {s s':SI} {out:List (List T)} {e:Int} {r:List (List T) × Int}:s.goals≠[]->StepI p false s (some s') e->RunI p vars most n s' out r->RunI p vars most (n+1) s out r
 | more {n:Nat} {s:SI} {out:List (List T)}:s.goals=[]->out.length=most->RunI p vars most n s out (out,1)
 | large {n:Nat} {s:SI} {out:List (List T)}:s.goals=[]->out.length≠most->ValsI s.st vars none->RunI p vars most n s out (out,3)
 | last {n:Nat} {s:SI} {out:List (List T)} {vs:List T}:s.goals=[]->out.length≠most->ValsI s.st vars (some vs)->BackI p s.chs s.st.length s.nodes none->RunI p vars most n s out (out++[vs],0)
 | next {n:Nat} {s s':SI} {out:List (List T)} {vs:List T} {r:List (List T) × Int}:s.goals=[]->out.length≠most->ValsI s.st vars (some vs)->BackI p s.chs s.st.length s.nodes (some s')->RunI p vars most n s' (out++[vs]) r->RunI p vars most n s out r
structure kB (cl:C):Prop where
 head:(okU 26 cl.head/\wT cl.head<=1048576)/\okM cl.head
 body:∀ t∈cl.body,(okU 26 t/\wT t<=1048576)/\okM t
def okGI (N:Nat) (g:GI):Prop:=((okU N g.t/\wT g.t<=1048576)/\okM g.t)/\0<=g.cut
def cutsG (gs:List GI):Prop:=gs.Pairwise fun a b=>b.cut<=a.cut
structure okCI (m:Nat) (k:Nat) (c:CI):Prop where
 good:Good c.binds.length c.binds
 tab:tabM c.binds
 goal:(okU c.binds.length c.goal/\wT c.goal<=1048576)/\okM c.goal
 rest:∀ g∈c.rest,okGI c.binds.length g/\g.cut<=k
 cuts:cutsG c.rest
 left:∀ i∈c.left,0<=i/\i<m
 node:0<=c.node/\c.node<c.taken
structure okCs (m n k:Nat) (cs:List CI):Prop where
 at_:∀ i (h:i<cs.length),okCI m i cs[i]/\cs[i].binds.length<=n/\cs[i].taken<=k
 srt:cs.Pairwise fun a b=>a.taken<=b.taken
structure tz (m:Nat) (s:SI):Prop where
 good:Good s.st.length s.st
 tab:tabM s.st
 goals:∀ g∈s.goals,okGI s.st.length g/\g.cut<=s.chs.length
 cuts:cutsG s.goals
 chs:okCs m s.st.length s.nodes.length s.chs
def jA:List CI->Nat
 | []=>0
 | c::cs=>c.left.length+jA cs
theorem wc:∀ a b:List CI,jA (a++b)=jA a+jA b
 | [],b=>by simp [jA]
 | x::a,b=>by rw [i8,jA,jA,wc a b,NB]
theorem LV:∀ (a:List CI) (k:Nat),jA (a.take k)<=jA a
 | [],k=>by simp [jA]
 | x::a,0=>by simp [jA]
 | x::a,k+1=>by
  have:=LV a k;rw [tf,jA,jA];omega
theorem okCs.nil (m n k:Nat):okCs m n k []:=⟨fun i h=>by simp at h,List.Pairwise.nil⟩
theorem okCs.snoc {m n k:Nat} {cs:List CI} {c:CI} (h:okCs m n k cs) (hc:okCI m cs.length c/\c.binds.length<=n/\c.taken=k):okCs m n k (cs++[c]):=by
 refine ⟨fun i g=>?_,?_⟩
 ·rw [bK,bI,cB] at g;by_cases f:i<cs.length
  ·rw [iO f];exact h.at_ i f
  ·obtain rfl:i=cs.length:=by omega
   rw [gF (be _)];simp only [fH,pi];exact ⟨hc.1,hc.2.1,Dh hc.2.2⟩
 ·rw [VL];refine ⟨h.srt,List.pairwise_singleton _ _,fun a l b j=>?_⟩;simp only [cE] at j;subst j;obtain ⟨i,g,rfl⟩:=CV l;rw [hc.2.2];exact (h.at_ i g).2.2
theorem okCs.last {m n k:Nat} {cs:List CI} {c:CI} (h:okCs m n k (cs++[c])):okCs m n c.taken cs/\okCI m cs.length c/\c.binds.length<=n/\c.taken<=k:=by
 have a:=h.srt;rw [VL] at a;refine ⟨⟨fun i f=>?_,a.1⟩,?_⟩
 ·have:=h.at_ i (by rw [bK];omega);rw [iO f] at this;exact ⟨this.1,this.2.1,a.2.2 _ (bJ f) c (by simp)⟩
 ·have:=h.at_ cs.length (by rw [bK];simp);rw [gF (be _)] at this;simpa using this
theorem okCs.mono {m n k n' k':Nat} {cs:List CI} (h:okCs m n k cs) (hn:n<=n') (hk:k<=k'):okCs m n' k' cs:=⟨fun i a=>⟨(h.at_ i a).1,gM (h.at_ i a).2.1 hn,gM (h.at_ i a).2.2 hk⟩,h.srt⟩
theorem okCs.take {m n k:Nat} {cs:List CI} (h:okCs m n k cs) (j:Nat):okCs m n k (cs.take j):=⟨fun i a=>by
 rw [ey] at a;rw [IU];exact h.at_ i (by omega),h.srt.sublist (List.take_sublist _ _)⟩
theorem Good.g26 {st:au} (h:Good st.length st):Good (st.length+26) (g26 st):=h.grow 26
theorem tabM.g26 {st:au} (h:tabM st):tabM (g26 st):=h.grow 26
theorem Good.to {st:au} (h:Good st.length st) {n:Nat} (hn:st.length<=n):Good n (ct st n):=by
 have:=h.grow (n - st.length)
 rwa [show st.length+(n - st.length)=n by omega] at this
theorem tabM.to {st:au} (h:tabM st) (n:Nat):tabM (ct st n):=h.grow _
theorem MW {st:au} {g:T} {cl:C} (f:okU st.length g/\wT g<=1048576) (a:kB cl):okJ (st.length+26) (.one g (bD st.length cl.head)):=by
 refine ⟨⟨iK (s3 ..) _ f.1,f.2⟩,?_,?_⟩
 ·have:=mp st.length cl.head a.head.1.1
  rwa [vR] at this
 ·rw [pm];exact a.head.1.2
theorem TryI.ex {p:List C} (m:∀ cl∈p,kB cl) {g:T}:∀ (l:List Int) (st:au),Good st.length st->(okU st.length g/\wT g<=1048576)->(∀ i∈l,0<=i/\i<p.length)->∃ o n,TryI p g l st o n
 | [],st,_,_,_=>⟨none,_,.nil⟩
 | i::l,st,hg,ho,hl=>by
  obtain ⟨J,M⟩:=hl i (bi ..);obtain ⟨j,rfl⟩:∃ j:Nat,i=j:=⟨i.toNat,by omega⟩
  have t:j<p.length:=by omega
  have f:p[j]?=some p[j]:=gd t;have h:=m _ (bJ t);obtain ⟨r,D,q⟩:=Hv _ _ hg.g26 (be _) _ (MW ho h);cases r with
  | true=>exact ⟨_,_,.hit f q⟩
  | false=>
   have a:=mw st;obtain ⟨o,n,G⟩:=TryI.ex m l (g26 st) (by rw [a];exact hg.g26) (by rw [a];exact ⟨iK (s3 ..) _ ho.1,ho.2⟩) fun i B=>hl i (bk _ B);exact ⟨o,n,.miss f q G⟩
theorem TryI.ok {p:List C} (U:∀ cl∈p,kB cl) {g:T} {l:List Int} {st:au} {o:Option HI} {n:Nat} (h:TryI p g l st o n):Good st.length st->tabM st->((okU st.length g/\wT g<=1048576)/\okM g)->
  st.length<=n/\(o=none->n=st.length+26 * l.length)/\∀ r,o=some r->r.cl∈p/\p[r.i]?=some r.cl/\st.length<=r.by_/\r.st.length=r.by_+26/\n=r.by_+26/\Good n r.st/\tabM r.st/\n+26 * r.l.length<=st.length+26 * l.length/\(∀ i∈r.l,i∈l):=by
 induction h with
 | nil=>intro _ _ _;exact ⟨be _,fun _=>by simp,fun r m=>by cases m⟩
 | @hit i l cl st J f M=>
  intro B D j;have t:=U _ (cJ f);obtain ⟨q,_⟩:=M.good B.g26 (MW j.1 t);have G:=M.okM D.g26 ⟨j.2,ow _ _ t.head.2⟩;refine ⟨by omega,(fun h=>by cases h),fun r m=>?_⟩;simp only [aY] at m;subst m;refine ⟨cJ f,f,be _,q.len,rfl,q,G,?_,fun i f=>bk _ f⟩;simp only [bI];omega
 | @miss i l cl st J o n f M _ ih=>
  intro B D j;have a:=mw st;obtain ⟨V,N,O⟩:=ih (by rw [a];exact B.g26) D.g26 ⟨by rw [a];exact ⟨iK (s3 ..) _ j.1.1,j.1.2⟩,j.2⟩;rw [a] at V N O;refine ⟨by omega,fun h=>by rw [N h,bI];omega,fun r m=>?_⟩;obtain ⟨Y,Z,a3,a4,a5,a6,a7,a8,a9⟩:=O r m;exact ⟨Y,Z,by omega,a4,a5,a6,a7,by rw [bI];omega,fun i f=>bk _ (a9 i f)⟩
end
section
open Go Go.RowKit
theorem C9 (ns:List NI) (a:Nat) (i:Int):(OX ns a i).length=ns.length:=by simp [OX]
theorem cutsG.body {cl:C} {b:Nat} {k u:Int} {rest:List GI} (h:cutsG rest) (f:∀ g∈rest,g.cut<=k):cutsG (nf cl b k u rest):=by
 unfold nf cutsG;rw [VL];refine ⟨?_,h,fun a i b j=>?_⟩
 ·rw [List.pairwise_map];exact Z8.2 fun _=>H1 _
 ·obtain ⟨t,_,rfl⟩:=eV.1 i;exact f b j
theorem okGI.mono {N M:Nat} (h:N<=M) {g:GI} (a:okGI N g):okGI M g:=⟨⟨⟨iK h _ a.1.1.1,a.1.1.2⟩,a.1.2⟩,a.2⟩
theorem WR {p:List C} (O:∀ cl∈p,kB cl) {m:Nat} (hm:m=p.length) {g:T} {l:List Int} {b:au} {r:HI} {n:Nat} (h:TryI p g l b (some r) n) (q:Good b.length b) (U:tabM b) (V:(okU b.length g/\wT g<=1048576)/\okM g)
  {cs:List CI} {ns:List NI} {at_:Int} {rest:List GI} (hl:∀ i∈l,0<=i/\i<p.length) (B:0<=at_/\at_<ns.length) (D:∀ g∈rest,okGI b.length g/\g.cut<=cs.length) (j:cutsG rest) (G:okCs m b.length ns.length cs) :
  tz m (jj cs ns g at_ rest b r)/\(jj cs ns g at_ rest b r).st.length+26 * jA (jj cs ns g at_ rest b r).chs<=b.length+26 * l.length+26 * jA cs/\(jj cs ns g at_ rest b r).nodes.length=ns.length/\b.length<=(jj cs ns g at_ rest b r).st.length:=by
 subst hm;obtain ⟨Y,_,h3⟩:=h.ok O q U V;obtain ⟨a1,a2,a3,a4,a5,a6,a7,a8,a9⟩:=h3 r rfl;have N:=O _ a1;have f:r.st.length=n:=by omega
 have o:okCs p.length n ns.length (cs++(if r.l=[] then [] else [⟨g,at_,rest,r.l,b,ns.length⟩])):=by
  have h0:=G.mono (n':=n) (k':=ns.length) Y (be _);split
  ·rwa [dc]
  ·exact h0.snoc ⟨⟨q,U,V,D,j,fun i hi=>hl i (a9 i hi),B⟩,Y,rfl⟩
 have a0:cs.length<=(cs++(if r.l=[] then [] else [(⟨g,at_,rest,r.l,b,ns.length⟩:CI)])).length:=by rw [bK];omega
 refine ⟨⟨?_,a7,?_,j.body fun g q=>(D g q).2,?_⟩,?_,C9 _ _ _,by show b.length<=r.st.length;omega⟩
 ·show Good r.st.length r.st;rw [f];exact a6
 ·intro x hx;have a:x∈nf r.cl r.by_ cs.length at_ rest:=hx;show okGI r.st.length x/\x.cut<=((cs++(if r.l=[] then [] else [(⟨g,at_,rest,r.l,b,ns.length⟩:CI)])).length:Int);unfold nf at a;rcases ci.1 a with a|a
  ·obtain ⟨t,J,rfl⟩:=eV.1 a;obtain ⟨⟨M,Z⟩,q3⟩:=N.body t J;refine ⟨⟨⟨⟨?_,?_⟩,ow _ _ q3⟩,by simp only;omega⟩,by simp only;omega⟩
   ·have:=mp r.by_ t M;rw [vR] at this;rw [a4];exact this
   ·simp only [pm];exact Z
  ·obtain ⟨M,Z⟩:=D x a;exact ⟨M.mono (by omega),by omega⟩
 ·show okCs p.length r.st.length (OX ns at_.toNat r.i).length (cs++(if r.l=[] then [] else [⟨g,at_,rest,r.l,b,ns.length⟩]));rw [f,C9];exact o
 ·show r.st.length+26 * jA (cs++(if r.l=[] then [] else [(⟨g,at_,rest,r.l,b,ns.length⟩:CI)]))<=_;rw [wc];split
  ·simp only [jA];omega
  ·simp only [jA];omega
theorem okCI.grow {m k n:Nat} {c:CI} (h:okCI m k c) (hn:c.binds.length<=n):Good (ct c.binds n).length (ct c.binds n)/\tabM (ct c.binds n)/\((okU (ct c.binds n).length c.goal/\wT c.goal<=1048576)/\okM c.goal)/\
  ∀ g∈c.rest,okGI (ct c.binds n).length g/\g.cut<=k:=by
 rw [dj hn];exact ⟨h.good.to hn,h.tab.to n,⟨⟨iK hn _ h.goal.1.1,h.goal.1.2⟩,h.goal.2⟩,fun g a=>⟨(h.rest g a).1.mono hn,(h.rest g a).2⟩⟩
theorem BackI.ex {p:List C} (f:∀ cl∈p,kB cl):∀ (L:Nat) (cs:List CI) (n:Nat) (ns:List NI),cs.length=L->okCs p.length n ns.length cs->∃ o,BackI p cs n ns o
 | 0,cs,n,ns,hL,_=>by
  obtain rfl:=iy hL;exact ⟨none,.nil⟩
 | L+1,cs,n,ns,hL,hcs=>by
  obtain ⟨a,c,rfl⟩:∃ a c,cs=a++[c]:=⟨cs.dropLast,cs.getLast (by intro e;rw [e] at hL;simp at hL),(Wf _).symm⟩
  rw [bK,bI,cB] at hL;obtain ⟨t,h,i,D⟩:=hcs.last;obtain ⟨j,g2,l,G⟩:=h.grow i;obtain ⟨o,m,g⟩:=TryI.ex f c.left (ct c.binds n) j l.1 h.left;cases o with
  | some r=>exact ⟨_,.hit g⟩
  | none=>
   obtain ⟨q,_,_⟩:=g.ok f j g2 l;rw [dj i] at q;obtain ⟨o,B⟩:=BackI.ex f L a m (ns.take c.taken) (by omega) (t.mono q (by rw [ey];omega));exact ⟨o,.miss g B⟩
theorem BackI.ok {p:List C} (N:∀ cl∈p,kB cl) {cs:List CI} {n:Nat} {ns:List NI} {o:Option SI} (h:BackI p cs n ns o):okCs p.length n ns.length cs->∀ s,o=some s->tz p.length s/\s.st.length+26 * jA s.chs<=n+26 * jA cs/\s.nodes.length<=ns.length/\n<=s.st.length:=by
 induction h with
 | nil=>intro _ s g;cases g
 | @hit cs c n m ns r M=>
  intro f s g;simp only [aY] at g;subst g;obtain ⟨l,i,j,Y⟩:=f.last;obtain ⟨q,g2,t,O⟩:=i.grow j;have a:(ns.take c.taken).length=c.taken:=by rw [ey];omega
  have hl:=dj j;obtain ⟨B,U,D,G⟩:=WR N rfl M q g2 t (cs:=cs) (ns:=ns.take c.taken) (at_:=c.node) (rest:=c.rest) i.left (by rw [a];exact i.node) O i.cuts (by rw [a,hl];exact l);rw [hl] at U G;refine ⟨B,?_,by rw [D,ey];omega,G⟩;rw [wc,jA,jA];omega
 | @miss cs c n m ns o M _ Z=>
  intro f s g;obtain ⟨l,i,j,Y⟩:=f.last;obtain ⟨q,g2,t,O⟩:=i.grow j;obtain ⟨V,J,_⟩:=M.ok N q g2 t;have hl:=dj j;have J:=J rfl;rw [hl] at V J;have a:(ns.take c.taken).length=c.taken:=by rw [ey];omega
  obtain ⟨B,U,D,G⟩:=Z (by rw [a];exact l.mono V (be _)) s g;refine ⟨B,?_,by rw [ey] at D;omega,by omega⟩;rw [wc,jA,jA];omega
theorem sI {N:Nat} {st:au} (g:Good N st) {t u:T} (a:(okU N t/\wT t<=1048576)/\okM t) (h:tabM st) (f:Res st (.one t u)):okU N u/\okM u:=⟨kz g f a.1.1,f.okM h a.2⟩
theorem g8 {m n:Nat} {ns:List NI} {cs:List CI} (h:okCs m n ns.length cs) (x:NI):okCs m n (ns++[x]).length cs:=h.mono (be _) (by simp)
theorem StepI.ex {p:List C} (J:∀ cl∈p,kB cl) (nc:Bool) {s:SI} (j:tz p.length s) (Z:s.goals≠[]):∃ o e,StepI p nc s o e:=by
 obtain ⟨g,gs,a⟩:∃ g gs,s.goals=g::gs:=by
  cases h:s.goals with
  | nil=>exact absurd h Z
  | cons g gs=>exact ⟨g,gs,rfl⟩
 have B:=j.goals;rw [a] at B;have D:=B g (bi ..);obtain ⟨t,i⟩:=Di j.good g.t D.1.1.1.1;obtain ⟨l,M⟩:=sI j.good D.1.1 j.tab i;cases f:bL t with
 | false=>exact ⟨_,_,.large a i f⟩
 | true=>
  have hw:=gG f l;cases hc:fC t with
  | true=>
   cases nc with
   | true=>exact ⟨_,_,.noCut a i f hc rfl⟩
   | false=>exact ⟨_,_,.cut a i f hc rfl⟩
  | false=>
   have G:=g8 j.chs ⟨t,g.up,-1⟩;cases q:bW t with
   | true=>
    obtain ⟨c,st,N⟩:=Blt.ex j.good q ⟨l,by omega⟩;by_cases V:c=0
    ·subst V;exact ⟨_,_,.solved a i f hc q N⟩
    by_cases Y:c=1
    ·subst Y;obtain ⟨o,O⟩:=BackI.ex J _ s.chs s.st.length (s.nodes++[(⟨t,g.up,-1⟩:NI)]) rfl G;exact ⟨_,_,.fail a i f hc q N O⟩
    ·exact ⟨_,_,.err a i f hc q N V Y⟩
   | false=>
    by_cases hf:hH p t=[]
    ·exact ⟨_,_,.unknown a i f hc q hf⟩
    obtain ⟨o,m,U⟩:=TryI.ex J (hH p t) s.st j.good ⟨l,by omega⟩ (sH p t);cases o with
    | some r=>exact ⟨_,_,.took a i f hc q hf U⟩
    | none=>
     obtain ⟨k1,_,_⟩:=U.ok J j.good j.tab ⟨⟨l,by omega⟩,M⟩;obtain ⟨o,O⟩:=BackI.ex J _ s.chs m (s.nodes++[(⟨t,g.up,-1⟩:NI)]) rfl (G.mono k1 (be _));exact ⟨_,_,.back a i f hc q hf U O⟩
theorem StepI.ok {p:List C} (Y:∀ cl∈p,kB cl) {nc:Bool} {s:SI} {o:Option SI} {e:Int} (h:StepI p nc s o e) (f:tz p.length s):∀ j,o=some j->tz p.length j/\j.st.length+26 * jA j.chs<=s.st.length+26 * jA s.chs+26 * p.length/\j.nodes.length<=s.nodes.length+1/\e=-1/\s.st.length<=j.st.length:=by
 have a0:=f.good;cases h with
 | large=>intro j h;cases h
 | noCut=>intro j h;cases h
 | err=>intro j h;cases h
 | unknown=>intro j h;cases h
 | @cut g gs t B N D hc a5=>
  intro j h;simp only [aY] at h;subst h;have a:=f.goals;have i:=f.cuts;rw [B] at a i;have q:=a g (bi ..);have a3:=q.1.2;have a4:=q.2;rw [cutsG,Uz] at i;have a1:(s.chs.take g.cut.toNat).length=g.cut.toNat:=by rw [ey];omega
  refine ⟨⟨f.good,f.tab,fun x O=>⟨(a x (bk _ O)).1,?_⟩,i.2,(g8 f.chs _).take _⟩,?_,by simp,rfl,be _⟩
  ·have:=i.1 x O;show x.cut<=((s.chs.take g.cut.toNat).length:Int);rw [a1];omega
  ·have:=LV s.chs g.cut.toNat;show s.st.length+26 * jA (s.chs.take g.cut.toNat)<=_;omega
 | @solved g gs t st B N D hc hb hB=>
  intro j h;simp only [aY] at h;subst h;have a:=f.goals;have i:=f.cuts;rw [B] at a i;have q:=a g (bi ..);obtain ⟨l,J⟩:=sI f.good q.1.1 f.tab N;have hw:=gG D l;have V:=hB.good f.good hb ⟨l,by omega⟩;have a2:=hB.okM f.tab J;have G:=V.len;rw [cutsG,Uz] at i;refine ⟨⟨by show Good st.length st;rw [G];exact V,a2,fun x O=>?_,i.2,?_⟩,?_,by simp,rfl,Dh G.symm⟩
  ·show okGI st.length x/\_;rw [G];exact a x (bk _ O)
  ·show okCs p.length st.length (s.nodes++[(⟨t,g.up,-1⟩:NI)]).length s.chs;rw [G];exact g8 f.chs _
  ·show st.length+26 * jA s.chs<=_;omega
 | @fail g gs t st o B N D hc hb hB ho=>
  intro j h;subst h;obtain ⟨U,q2,M,Z⟩:=ho.ok Y (g8 f.chs _) j rfl;rw [bK] at M;exact ⟨U,by omega,by simpa using M,rfl,Z⟩
 | @took g gs t r m B N D hc hb hf hT=>
  intro j h;simp only [aY] at h;subst h;have a:=f.goals;have i:=f.cuts;rw [B] at a i;have q:=a g (bi ..);obtain ⟨l,J⟩:=sI f.good q.1.1 f.tab N;have hw:=gG D l;rw [cutsG,Uz] at i;obtain ⟨U,q2,M,Z⟩:=WR Y rfl hT f.good f.tab ⟨⟨l,by omega⟩,J⟩ (cs:=s.chs) (ns:=s.nodes++[(⟨t,g.up,-1⟩:NI)]) (at_:=s.nodes.length) (rest:=gs) (sH p t) (by simp;omega) (fun x O=>a x (bk _ O)) i.2 (g8 f.chs _);have hl:(hH p t).length<=p.length:=xb _ _ _;exact ⟨U,by omega,by rw [M];simp,rfl,Z⟩
 | @back g gs t m o B N D hc hb hf hT ho=>
  intro j h;subst h;have a:=f.goals;rw [B] at a;have q:=a g (bi ..);obtain ⟨l,J⟩:=sI f.good q.1.1 f.tab N;have hw:=gG D l;obtain ⟨k1,k2,_⟩:=hT.ok Y f.good f.tab ⟨⟨l,by omega⟩,J⟩;have k2:=k2 rfl;have hl:(hH p t).length<=p.length:=xb _ _ _;obtain ⟨U,q2,M,Z⟩:=ho.ok Y ((g8 f.chs _).mono k1 (be _)) j rfl;rw [bK] at M;exact ⟨U,by omega,by simpa using M,rfl,by omega⟩
theorem abq {N:Nat} {st:au} (h:Good N st) {vars:List Int} (f:∀ n∈vars,0<=n/\n<N):∃ o,ValsI st vars o:=by
 obtain ⟨us,a⟩:=Ak h (vars.map Td) (oe fun t g=>by
  obtain ⟨n,hn,rfl⟩:=eV.1 g;obtain ⟨i,j⟩:=f n hn;show okU N (.mk 1 n emptyB []);rw [okU,du];exact ⟨by decide,fun _=>⟨i,by omega,rfl,rfl⟩,trivial,Fb⟩)
 exact ⟨_,us,a,rfl⟩
theorem RunI.ex {p:List C} (h:∀ cl∈p,kB cl) {vars:List Int} (j:∀ n∈vars,0<=n/\n<26) (most:Nat):∀ (M n:Nat) (s:SI) (out:List (List T)),n+(most - out.length)<=M->out.length<=most->tz p.length s->26<=s.st.length->∃ r,RunI p vars most n s out r
 | 0,n,s,out,hM,ho,hs,h26=>by
  obtain rfl:n=0:=by omega
  by_cases a:s.goals=[]
  ·exact ⟨_,.more a (by omega)⟩
  ·exact ⟨_,.fuel a⟩
 | M+1,n,s,out,hM,ho,hs,h26=>by
  by_cases a:s.goals=[]
  ·by_cases l:out.length=most
   ·exact ⟨_,.more a l⟩
   obtain ⟨v,f⟩:=abq hs.good (vars:=vars) fun n hn=>⟨(j n hn).1,by have:=(j n hn).2;omega⟩
   cases v with
   | none=>exact ⟨_,.large a l f⟩
   | some vs=>
    obtain ⟨b,m⟩:=BackI.ex h _ s.chs s.st.length s.nodes rfl hs.chs;cases b with
    | none=>exact ⟨_,.last a l f m⟩
    | some i=>
     obtain ⟨q,_,_,B⟩:=m.ok h hs.chs i rfl;have hl:(out++[vs]).length=out.length+1:=by simp
     obtain ⟨r,t⟩:=RunI.ex h j most M n i (out++[vs]) (by omega) (by omega) q (by omega);exact ⟨r,.next a l f m t⟩
  ·cases n with
   | zero=>exact ⟨_,.fuel a⟩
   | succ n=>
    obtain ⟨o,e,g⟩:=StepI.ex h false hs a;cases o with
    | none=>exact ⟨_,.stop a g⟩
    | some i=>
     obtain ⟨q,_,_,_,B⟩:=g.ok h hs i rfl;obtain ⟨r,t⟩:=RunI.ex h j most M n i out (by omega) ho q (by omega);exact ⟨r,.step a g t⟩
def jb (q:List T):SI:=⟨List.replicate 26 none,q.map fun t=>⟨t,0,-1⟩,[],[]⟩
theorem X4 (m:Nat) {q:List T} (h:∀ t∈q,(okU 26 t/\wT t<=1048576)/\okM t):tz m (jb q):=by
 have hl:(List.replicate 26 (none:Option T)).length=26:=by simp
 refine ⟨by show Good (List.replicate 26 (none:Option T)).length _;rw [hl];exact mq 26,tabM.none 26,fun g a=>?_,?_,okCs.nil _ _ _⟩
 ·obtain ⟨t,f,rfl⟩:=eV.1 a;show okGI (List.replicate 26 (none:Option T)).length _/\_;rw [hl];exact ⟨⟨h t f,H1 _⟩,H1 _⟩
 ·show List.Pairwise _ (q.map _);rw [List.pairwise_map];exact Z8.2 fun _=>H1 _
theorem SE {cl:C} (h:cz cl=true):kB cl:=by
 obtain ⟨l,m,q⟩:=iJ h;have j:=Fa h;have i:=h;rw [cz] at i;simp only [aZ,bt,eX] at i;obtain ⟨hl,f,g,_⟩:=i;have o:=lr g;exact ⟨⟨⟨l,by omega⟩,j.hd⟩,fun t a=>⟨⟨m t a,by have:=lr (eL (f t a));omega⟩,j.bd t a⟩⟩
end
section
open Go Go.RowKit
theorem se (st:au):∀ ns:List Int,(gq st ns).length=st.length:=by
 intro ns;induction ns generalizing st with
 | nil=>rfl
 | cons n ns a=>
  have h:=a st;have e:gq st (n::ns)=gq (gq st ns) [n]:=wD st [n] ns;rw [e,show gq (gq st ns) [n]=(gq st ns).set n.toNat none from Dy _ [] n,mQ,h]
theorem XH (st:au) (k:Nat):∀ ns:List Int,gq (st++List.replicate k none) ns=gq st ns++List.replicate k none:=by
 intro ns;apply ya;intro i;rw [rx];by_cases a:i<st.length
 ·rw [vA a,vA (by rw [se];exact a),rx]
 ·rw [jr (by omega),jr (by rw [se];omega),se,Qc];split
  ·split <;> rfl
  ·rfl
theorem Sn (st:au) {n m:Nat} (h:st.length<=n) (a:n<=m):ct (ct st n) m=ct st m:=by
 unfold ct;rw [eY,Vg]
 congr 2
 simp;omega
theorem Rh (st:au) (n:Nat) (ns:List Int):gq (ct st n) ns=ct (gq st ns) n:=by
 unfold ct;rw [XH,se]
def TrG (st st':au) (tr tr':List Int):Prop:=st.length<=st'.length/\∃ ns,tr'=tr++ns/\gq st' ns=ct st st'.length/\∀ n∈ns,0<=n
theorem TrG.refl (st:au) (tr:List Int):TrG st st tr tr:=⟨be _,[],(dc _).symm,by rw [kR]; rfl,by simp⟩
theorem TrG.grow (st:au) (tr:List Int) {n:Nat} (h:st.length<=n):TrG st (ct st n) tr tr:=⟨by rw [dj h]; exact h,[],(dc _).symm,by rw [dj h]; rfl,by simp⟩
theorem TrG.of {st a:au} {tr f:List Int} (h:Tr st a tr f):TrG st a tr f:=by
 obtain ⟨ns,i,g,l,_⟩:=h;have hl:a.length=st.length:=by rw [<- g,se]
 refine ⟨by omega,ns,i,by rw [g,hl,kR],fun n hn=>?_⟩;obtain ⟨j,rfl,_⟩:=l n hn;omega
theorem TrG.trans {a b c:au} {x y z:List Int} (h:TrG a b x y) (f:TrG b c y z):TrG a c x z:=by
 obtain ⟨g,i,e1,j,l⟩:=h;obtain ⟨m,o,e2,q,p2⟩:=f;refine ⟨by omega,i++o,by rw [e2,e1,eY],?_,fun n hn=>(ci.1 hn).elim (l n) (p2 n)⟩;rw [wD,q,Rh,j,Sn _ g m]
theorem Tr.short {st a:au} {tr f:List Int} (h:Tr st a tr f):f.length+unb a<=tr.length+unb st:=by
 obtain ⟨ns,rfl,_,_,g⟩:=h;rw [bK];omega
theorem tu:∀ (st:au) (k:Nat),unb (st++List.replicate k none)=unb st+k
 | [],k=>by rw [u9,Ay];simp [unb]
 | none::st,k=>by simp only [i8,unb,tu st k];omega
 | some t::st,k=>by simp only [i8,unb,tu st k]
inductive MkI:List CI->List Nat->au->List Int->Prop
 | nil {st:au} {tr:List Int}:MkI [] [] st tr
 | snoc {cs:List CI} {c:CI} {ms:List Nat} {st:au} {tr0 tr:List Int}:MkI cs ms c.binds tr0->TrG c.binds st tr0 tr->MkI (cs++[c]) (ms++[tr0.length]) st tr
theorem MkI.len {cs:List CI} {a:List Nat} {st:au} {tr:List Int} (h:MkI cs a st tr):a.length=cs.length:=by
 induction h with
 | nil=>rfl
 | snoc _ _ f=>rw [bK,bK,f];rfl
theorem MkI.go {cs:List CI} {g:List Nat} {st a:au} {tr f:List Int} (h:MkI cs g st tr) (i:TrG st a tr f):MkI cs g a f:=by
 cases h with
 | nil=>exact .nil
 | snoc j l=>exact .snoc j (l.trans i)
theorem MkI.push {cs:List CI} {c:CI} {a:List Nat} {tr:List Int} (h:MkI cs a c.binds tr):MkI (cs++[c]) (a++[tr.length]) c.binds tr:=.snoc h (TrG.refl _ _)
theorem MkI.pop {cs:List CI} {c:CI} {g:List Nat} {st:au} {tr:List Int} (h:MkI (cs++[c]) g st tr):∃ (a:List Nat) (m:Nat),g=a++[m]/\m<=tr.length/\(∀ n∈tr.drop m,0<=n)/\gq st (tr.drop m)=ct c.binds st.length/\
  MkI cs a (ct c.binds st.length) (tr.take m)/\MkI cs a st tr:=by
 generalize hl:cs++[c]=l at h;cases h with
 | nil=>simp at hl
 | @snoc r B a _ f _ q t=>
  obtain ⟨rfl,hc⟩:=ZY hl rfl;simp only [gV,i0] at hc;subst hc;obtain ⟨i,ns,rfl,j,o⟩:=t;refine ⟨a,f.length,rfl,by simp,by simpa using o,by simpa using j,?_,q.go ⟨i,ns,rfl,j,o⟩⟩;have:=q.go (TrG.grow c.binds f i);simpa using this
theorem MkI.take {cs:List CI} {f:List Nat} {st:au} {tr:List Int}:∀ (k:Nat) (_:MkI cs f st tr),MkI (cs.take (cs.length - k)) (f.take (cs.length - k)) st tr
 | 0,h=>by
  have:=h.len;rw [Nat.sub_zero,fM,<- this,fM];exact h
 | k+1,h=>by
  have hk:=MkI.take k h;by_cases r:cs.length - k=0
  ·rw [show cs.length - (k+1)=0 by omega,NA,NA];exact .nil
  have hl:=h.len;obtain ⟨j,q⟩:∃ j,cs.length - k=j+1:=⟨cs.length - k - 1,by omega⟩
  have g:j<cs.length:=by omega
  rw [q,gh g] at hk;obtain ⟨a,m,e,_,_,_,_,l⟩:=hk.pop;have i:a.length=j:=by have:=l.len;rw [ey] at this;omega
  have e2:a=f.take j:=by
   have o:=congrArg (List.take j) e;rw [lW,kJ (by omega),H6 i] at o;exact o.symm
  rw [show cs.length - (k+1)=j by omega,<- e2];exact l
theorem MkI.cut {cs:List CI} {a:List Nat} {st:au} {tr:List Int} (h:MkI cs a st tr) {k:Nat} (hk:k<=cs.length):MkI (cs.take k) (a.take k) st tr:=by
 have:=MkI.take (cs.length - k) h
 rwa [show cs.length - (cs.length - k)=k by omega] at this
end
section
open Go Go.RowKit
inductive GL (S:ae):Value->List GI->Prop
 | nil:GL S (.pointer none) []
 | cons {b:Nat} {a0 a1 a2 a3 nv:Value} {E:TypeId} {fz:Nat × Nat} {g:GI} {gs:List GI}:S b=some (.cells #[a0,a1,a2,a3,.int .i64 g.cut,.int .i64 g.up,nv] E fz)->RdT S [a0,a1,a2,a3] g.t->GL S nv gs->GL S (.pointer (some ⟨b,0,none⟩)) (g::gs)
theorem GL.mono {S S':ae} (a:Sle S S') {v:Value} {gs:List GI} (h:GL S v gs):GL S' v gs:=by
 induction h with
 | nil=>exact .nil
 | cons f g _ i=>exact .cons (a _ _ f) (g.mono a) i
theorem GL.ptr {S:ae} {v:Value} {gs:List GI} (h:GL S v gs):∃ p,v=.pointer p:=by
 cases h with
 | nil=>exact ⟨_,rfl⟩
 | cons=>exact ⟨_,rfl⟩
theorem RdT.four {S:ae} {cs:hZ} {t:T} (h:RdT S cs t):∃ a f g i,cs=[a,f,g,i]:=by
 obtain ⟨kv,rfl,_⟩:=RdT.iff.1 h;exact ⟨_,_,_,_,rfl⟩
section
variable {w:World} {K:Value->World->Prop}
attribute [local irreducible] Run
theorem W3 {a b c d:Value} {i j:Int} {p:Option Addr} (hk:K (.agg #[a,b,c,d,ax i,ax j,.pointer p]) w):Run Tryz.prog (bZ pQ [(0,.agg #[a,b,c,d]),(1,ax i),(2,ax j),(3,.pointer p)]) w K:=by
 refine Run.of (v:=.agg #[a,b,c,d,ax i,ax j,.pointer p]) (w':=w) ?_ hk;unfold bZ;rw [Sem.run_bind,run_build w pQ _ #[a,b,c,d,ax i,ax j,.pointer p] (by kernel_rfl),Result.andThen_ok];rfl
theorem Qj {a b c d:Value} {i j:Int} (hk:K (.agg #[a,b,c,d,ax i,ax j]) w):Run Tryz.prog (bZ nV [(0,.agg #[a,b,c,d]),(1,ax i),(2,ax j)]) w K:=by
 refine Run.of (v:=.agg #[a,b,c,d,ax i,ax j]) (w':=w) ?_ hk;unfold bZ;rw [Sem.run_bind,run_build w nV _ #[a,b,c,d,ax i,ax j] (by kernel_rfl),Result.andThen_ok];rfl
theorem KZ {a b c d:Value} {i j k:Int} {p:Option Addr} {q:Option Addr} {n m:Nat} (hk:K (.agg #[a,b,c,d,ax i,.pointer p,.slice q n m,ax j,ax k]) w) :
  Run Tryz.prog (bZ fk [(0,.agg #[a,b,c,d]),(1,ax i),(2,.pointer p),(3,.slice q n m),(4,ax j),(5,ax k)]) w K:=by
 refine Run.of (v:=.agg #[a,b,c,d,ax i,.pointer p,.slice q n m,ax j,ax k]) (w':=w) ?_ hk;unfold bZ;rw [Sem.run_bind,run_build w fk _ #[a,b,c,d,ax i,.pointer p,.slice q n m,ax j,ax k] (by kernel_rfl),Result.andThen_ok];rfl
end
section
attribute [local irreducible] Run CondV aF aT
theorem M1 {ts:List T} {S:ae} {v B:Value} {gs:List GI} {cut up:Int} (h:RdSl S 4 (RdT S) v ts) (D:GL S B gs):kt aa4 [v,ax cut,ax up,B] [] S fun q I' S'=>I'=[]/\GL S' q (ts.map (fun t=>⟨t,cut,up⟩)++gs):=by
 intro w a;have m:=h.le;simp only [maxLen] at m;refine Sv.2 ?_;dsimp only[Sv,lQ];refine aI h ag ?_;refine je (by omega) ?_;refine ⟨fun i q w'=>∃ (j:Nat) (S1:ae),j<=ts.length/\i=ax ((j:Int) - 1)/\Ext w.heap.size [] S S1/\GL S1 q ((ts.drop j).map (fun t=>⟨t,cut,up⟩)++gs)/\Inv w [] [] S1 w',fun i _ _=>((intOf i)+1).toNat,
  ⟨ts.length,S,be _,rfl,Ext.refl _ _ _,by rw [dY];exact D,a⟩,?_⟩
 intro U _ _ V _ _ _ _ _ _ _ _ _ _ _ w';rintro ⟨j,S1,Y,rfl,o,f,a⟩;refine iS (aJ (fun G=>?_) (fun G=>?_))
 ·obtain ⟨k,rfl⟩:∃ k,j=k+1:=⟨j - 1,by omega⟩
  have hk:k<ts.length:=by omega
  rw [show (((k+1:Nat):Int) - 1)=(k:Int) by omega];refine cL a (h.monoT o.1) ag ac hk (fun _ _=>RdT.length) fun cs l=>?_;obtain ⟨J,M,N,O,rfl⟩:=l.four;obtain ⟨p,rfl⟩:=f.ptr;refine W3 (bq a fun b w' a=>?_);have a:Inv w [] ([]++[ay b #[J,M,N,O,ax cut,ax up,.pointer p] pQ]) S1 w':=a;obtain ⟨S2,a,g,r⟩:=Inv.pub1 a;refine je (by omega) ?_;refine ⟨⟨k,S2,by omega,rfl,o.trans g,?_,a⟩,by simp only [intOf];omega⟩;rw [dB hk,qD,i8];exact GL.cons r (l.mono g.1) (f.mono g.1)
 ·have:j=0:=by omega
  subst this;exact ⟨_,_,S1,rfl,a,o,rfl,by simpa using f⟩
theorem XA {S:ae} {b:Nat} {by_:Int} {E:TypeId} {i:Nat × Nat} (j:S b=some (.cells #[ax by_] E i)) (m:0<=by_/\by_<=10000000):Fun sk [ee b] S fun n=>.mk 1 (n+by_) ⟨#[]⟩ []:=by
 intro S' f n l h;have g:=f _ _ j;refine ⟨[ax 1,ax (n+by_),.string ⟨#[]⟩,hV],RdT.nil (by simp [inI]) (by simp only [inI];omega) (show 0<=maxLen from bf _) (by simp [maxLen]),fun w a=>?_⟩;apply pP.2;dsimp only[pP,bl];refine aG a aV fun o w' a=>?_;refine cS aw (by rw [a.cellS g];rfl) (bA (by omega) (Run.callPure qH qO a (pB _ S') fun w' a=>?_));refine aq a 0 rfl ac rfl rfl (by simp [Value.oneCell']) fun w' a=>?_;apply bm a 0 ac rfl rfl;exact done a rfl
end
mutual
theorem wn {N:Nat} (b:Nat):∀ t:T,okU N t->Li (fun n=>.mk 1 (n+(b:Int)) ⟨#[]⟩ []) t=bD b t
 | .mk k n s ks,h=>by
  rw [okU] at h;rw [Li,bD];by_cases hk:k=1
  ·have a:=h.2.1 hk;rw [ai hk,ai hk,a.2.2.2,gw,a.2.2.1,hk];rfl
  ·rw [af hk,af hk,AR b ks h.2.2.1]
theorem AR {N:Nat} (b:Nat):∀ ts:List T,du N ts->CX (fun n=>.mk 1 (n+(b:Int)) ⟨#[]⟩ []) ts=gw b ts
 | [],_=>rfl
 | t::ts,h=>by
  rw [du] at h;rw [CX,gw,wn b t h.1,AR b ts h.2]
end
end
end Go.Proofs.YtellfcpffcipcaaGreatDoor
