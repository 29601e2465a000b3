/- spec: what holds of all parts of a term (numbers are small, only structures have names), and who keeps it. -/
import Derived.Test.YtfcbhfjomgopbaaGreatZFf11
import Derived.Test.YtfcbhfjomgopbaaGreatZFf6
import Derived.Test.YtfcbhfjomgopbaaGreatZFf7
import Derived.Test.YtfcbhfjomgopbaaGreatZFf8
import Derived.Test.YtfcbhfjomgopbaaGreatZFf10
namespace Go.Proofs.YtfcbhfjomgopbaaGreat
section
open Go Go.RowKit
mutual
def okM:T->Prop
 | .mk k n s ks=>(k=2->-999<=n/\n<=999)/\(k≠3->s=emptyB)/\nq ks
def nq:List T->Prop
 | []=>True
 | t::ts=>okM t/\nq ts
end
theorem qO:∀ {ts:List T},nq ts->∀ t∈ts,okM t
 | t::ts,h,x,hx=>by
  rw [nq] at h
  rcases List.mem_cons.1 hx with rfl|hx
  ·exact h.1
  ·exact qO h.2 x hx
theorem LL:∀ {ts:List T},(∀ t∈ts,okM t)->nq ts
 | [],_=>by rw [nq]; trivial
 | t::ts,h=>by rw [nq]; exact ⟨h t (List.mem_cons_self ..),LL fun u hu=>h u (List.mem_cons_of_mem _ hu)⟩
theorem okM.kids {t:T} (h:okM t):nq t.kids:=by cases t; rw [okM] at h; exact h.2.2
mutual
theorem okM.okN:∀ {t:T},okM t->okN t
 | .mk k n s ks,h=>by
  rw [okM] at h
  rw [Go.Proofs.YtfcbhfjomgopbaaGreat.okN]
  exact ⟨h.1,H6 h.2.2⟩
theorem H6:∀ {ts:List T},nq ts->xZ ts
 | [],_=>by rw [xZ]; trivial
 | t::ts,h=>by
  rw [nq] at h
  rw [xZ]
  exact ⟨okM.okN h.1,H6 h.2⟩
end
mutual
theorem EO:∀ (t:T) (d:Int),eY t d=true->okM t
 | .mk k n s ks,d,h=>by
  rw [eY] at h
  split at h
  ·cases h
  rw [Bool.and_eq_true] at h
  obtain ⟨ho,hk⟩:=h
  rw [okM]
  have h2:k=2->(-999<=n/\n<=999)/\s=emptyB:=by
   intro e
   subst e
   have ho2:eN (.mk 2 n s ks)=(decide (-999<=n) && (decide (n<=999) && (decide (s=emptyB) && decide (ks.length=0)))):=by
    rw [eN]; exact (if_neg (show ¬ (2:Int)=1 by decide)).trans (if_pos rfl)
   rw [ho2,Bool.and_eq_true,Bool.and_eq_true,Bool.and_eq_true] at ho
   exact ⟨⟨of_decide_eq_true ho.1,of_decide_eq_true ho.2.1⟩,of_decide_eq_true ho.2.2.1⟩
  refine ⟨fun e=>(h2 e).1,fun e=>?_,Bc ks _ hk⟩
  by_cases e2:k=2
  ·exact (h2 e2).2
  ·have ho:(if k=1 then decide (0<=n) && (decide (n<=25) && (decide (s=emptyB) && decide (ks.length=0))) else if k=2 then decide (-999<=n) && (decide (n<=999) && (decide (s=emptyB) && decide (ks.length=0))) else if k=3 then decide (n=0) && (mn s && decide (ks.length<=4)) else false)=true:=ho
   rw [if_neg e2,if_neg e] at ho
   split at ho
   ·simp only [Bool.and_eq_true,decide_eq_true_eq] at ho
    exact ho.2.2.1
   ·cases ho
theorem Bc:∀ (ts:List T) (d:Int),eU ts d=true->nq ts
 | [],_,_=>by rw [nq]; trivial
 | t::ts,d,h=>by
  rw [eU,Bool.and_eq_true] at h
  rw [nq]
  exact ⟨EO t d h.1,Bc ts d h.2⟩
end
theorem qZ {t:T} (h:dd t=true):okM t:=EO t 30 (qH h)
mutual
theorem rj (m:Int):∀ t:T,okM t->okM (cH m t)
 | .mk k n s ks,h=>by
  rw [okM] at h
  rw [cH,okM]
  refine ⟨fun e=>?_,h.2.1,BR m ks h.2.2⟩
  rw [if_neg (by omega)]
  exact h.1 e
theorem BR (m:Int):∀ ts:List T,nq ts->nq (fV m ts)
 | [],_=>by rw [fV,nq]; trivial
 | t::ts,h=>by
  rw [nq] at h
  rw [fV,nq]
  exact ⟨rj m t h.1,BR m ts h.2⟩
end
def tabM (st:aC):Prop:=∀ t,some t∈st->okM t
theorem tabM.set {st:aC} (h:tabM st) {n:Nat} {t:T} (ht:okM t):tabM (st.set n (some t)):=by
 intro u hu
 rcases List.mem_or_eq_of_mem_set hu with hu|hu
 ·exact h u hu
 ·rw [Option.some.injEq] at hu
  subst hu
  exact ht
theorem tabM.look {st:aC} (h:tabM st) {t u:T} (hl:look st t=some u):okM u:=h u (List.mem_of_getElem? (cT.1 hl).2)
theorem tabM.walk {st:aC} (h:tabM st) {t v:T} (hw:cS st t v) (ht:okM t):okM v:=by
 induction hw with
 | stop=>exact ht
 | step hl _ ih=>exact ih (h.look hl)
theorem tabM.grow {st:aC} (h:tabM st) (k:Nat):tabM (st++List.replicate k none):=by
 intro t ht
 rcases List.mem_append.1 ht with ht|ht
 ·exact h t ht
 ·have:=List.eq_of_mem_replicate ht
  cases this
theorem tabM.none (k:Nat):tabM (List.replicate k none):=by
 intro t ht
 have:=List.eq_of_mem_replicate ht
 cases this
def Q5:Job->Prop
 | .one a b=>okM a/\okM b
 | .list xs ys=>(∀ a∈xs,okM a)/\∀ b∈ys,okM b
theorem Uni.okM {st st':aC} {j:Job} {r:Bool} (hu:Uni st j r st'):tabM st->Q5 j->tabM st':=by
 induction hu with
 | same=>exact fun h _=>h
 | occA=>exact fun h _=>h
 | occB=>exact fun h _=>h
 | clash=>exact fun h _=>h
 | nil=>exact fun h _=>h
 | bindA ha hb _ _ _=>exact fun h hj=>h.set (h.walk hb hj.2)
 | bindB ha hb _ _ _=>exact fun h hj=>h.set (h.walk ha hj.1)
 | kids ha hb _ _ _ _ ih=>exact fun h hj=>ih h ⟨qO (h.walk ha hj.1).kids,qO (h.walk hb hj.2).kids⟩
 | stop _ ih=>exact fun h hj=>ih h ⟨hj.1 _ (List.mem_cons_self ..),hj.2 _ (List.mem_cons_self ..)⟩
 | go _ _ ih1 ih2=>
  exact fun h hj=>ih2 (ih1 h ⟨hj.1 _ (List.mem_cons_self ..),hj.2 _ (List.mem_cons_self ..)⟩) ⟨fun a ha=>hj.1 a (List.mem_cons_of_mem _ ha),fun b hb=>hj.2 b (List.mem_cons_of_mem _ hb)⟩
theorem Res.okM {st:aC} (hs:tabM st) {j:M9} (h:Res st j):match j with
  | .one t u=>okM t->okM u
  | .list ts us=>(∀ t∈ts,okM t)->∀ u∈us,okM u:=by
 induction h with
 | @one t v us hw _ ih=>
  intro ht
  have hv:=hs.walk hw ht
  have hk:=ih (qO hv.kids)
  cases v
  rw [Go.Proofs.YtfcbhfjomgopbaaGreat.okM] at hv ⊢
  exact ⟨hv.1,hv.2.1,LL hk⟩
 | nil=>intro _ u hu; cases hu
 | cons _ _ ih1 ih2=>
  intro ht u hu
  rcases List.mem_cons.1 hu with rfl|hu
  ·exact ih1 (ht _ (List.mem_cons_self ..))
  ·exact ih2 (fun t h=>ht t (List.mem_cons_of_mem _ h)) u hu
theorem okM.kd {g:T} (h:okM g) (i:Nat):okM (kd g i):=by
 rw [Go.Proofs.YtfcbhfjomgopbaaGreat.kd,List.getD_eq_getElem?_getD]
 cases e:g.kids[i]? with
 | none=>
  simp only [Option.getD_none]
  rw [zT,Go.Proofs.YtfcbhfjomgopbaaGreat.okM,nq]
  exact ⟨fun e=>(by cases e),fun _=>rfl,trivial⟩
 | some u=>exact qO h.kids u (List.mem_of_getElem? e)
theorem Qa {n:Int} (h:Sm n):okM (Du n):=by
 rw [Du,okM,nq]
 exact ⟨fun _=>h,fun _=>rfl,trivial⟩
def RR:BJ->Prop
 | .done _=>True
 | .uni a b=>Q5 (.one a b)
 | .not a b=>Q5 (.one a b)
theorem Rh {g:T} (h:okM g):RR (eP g):=by
 unfold eP
 split
 ·trivial
 split
 ·trivial
 split
 ·exact ⟨h.kd _,h.kd _⟩
 split
 ·exact ⟨h.kd _,h.kd _⟩
 split
 ·trivial
 split
 ·split
  ·trivial
  ·exact ⟨h.kd _,Qa (lj _ (h.kd _).okN)⟩
 split
 ·unfold qt
  split
  ·trivial
  split
  ·trivial
  split
  ·trivial
  ·exact ⟨h.kd _,(h.kd _).kd _⟩
 split
 ·trivial
 ·trivial
theorem Blt.okM {st st':aC} {g:T} {c:Int} (hs:tabM st) (hg:okM g) (h:Blt st g c st'):tabM st':=by
 have hj:=Rh hg
 unfold Blt at h
 match hb:eP g,h,hj with
 | .done c,h,_=>exact h.2 ▸ hs
 | .uni a b,⟨r,hu,_⟩,hj=>exact hu.okM hs hj
 | .not a b,h,_=>exact h.1 ▸ hs
theorem G0 (n:Int):dD emptyB n=false:=by
 rw [dD,if_neg (by decide +kernel),if_neg (by decide +kernel),if_neg (by decide +kernel),if_neg (by decide +kernel)]
theorem PT {u:T} (h:okM u):dD u.name u.kids.length=cM u:=by
 cases u with
 | mk k n s ks=>
  rw [okM] at h
  show dD s ks.length=(decide (k=3) && dD s ks.length)
  by_cases e:k=3
  ·subst e
   rfl
  ·rw [show (decide (k=3) && dD s ks.length)=false by rw [decide_eq_false e]; rfl,h.2.1 e,G0]
end
section
open Go Go.RowKit
structure vM (cl:C):Prop where
 cf:tf cl
 hd:okM cl.head
 bd:∀ t∈cl.body,okM t
 fr:i0 cl<=26
 ln:cl.body.length<=6
 w:wC cl<=1048576
 vs:∀ x∈de (cl.head::cl.body) [],0<=x/\x<1000000
mutual
theorem NK {M N:Nat}:∀ t:T,okU M t->(∀ m∈vT t,m<N)->okU N t
 | .mk k n s ks,h,hv=>by
  rw [okU] at h ⊢
  rw [vT] at hv
  refine ⟨h.1,fun e=>?_,?_,h.2.2.2⟩
  ·obtain ⟨q1,q2,q3⟩:=h.2.1 e
   have:=hv n.toNat (by rw [if_pos e]; exact List.mem_singleton.2 rfl)
   exact ⟨q1,by omega,q3⟩
  ·by_cases e:k=1
   ·rw [(h.2.1 e).2.2.2,dC]; trivial
   ·rw [if_neg e] at hv
    exact wW ks h.2.2.1 hv
theorem wW {M N:Nat}:∀ ts:List T,dC M ts->(∀ m∈vTL ts,m<N)->dC N ts
 | [],_,_=>by rw [dC]; trivial
 | t::ts,h,hv=>by
  rw [dC] at h ⊢
  rw [vTL] at hv
  exact ⟨NK t h.1 fun m hm=>hv m (List.mem_append_left _ hm),wW ts h.2 fun m hm=>hv m (List.mem_append_right _ hm)⟩
end
theorem Jn {cl:C} (h:ce cl=true):vM cl:=by
 obtain ⟨h1,h2,_⟩:=iL h
 have hU:dC 26 (cl.head::cl.body):=by rw [dC]; exact ⟨h1,Ak h2⟩
 have hmem:=tw (cl.head::cl.body) [] hU
 have hb:=h
 rw [ce] at hb
 simp only [Bool.and_eq_true,decide_eq_true_eq,List.all_eq_true] at hb
 obtain ⟨hl,hgs,hvh,_⟩:=hb
 have hlt:∀ m∈vTL (cl.head::cl.body),m<26:=KW _ hU
 have hfr:∀ m∈vTL (cl.head::cl.body),m<(i0 cl).toNat:=by
  intro m hm
  have:=(xP (de (cl.head::cl.body) []) 0).2 m ((hmem m).2 (.inr ⟨m,hm,rfl⟩))
  rw [i0]
  omega
 have hN:=wW _ hU hfr
 rw [dC] at hN
 have hwh:=oo hvh
 have hwb:∀ t∈cl.body,wT t<=840:=fun t ht=>oo (ek (hgs t ht))
 have hvs:∀ x∈de (cl.head::cl.body) [],0<=x/\x<26:=by
  intro x hx
  rcases (hmem x).1 hx with hx|⟨m,hm,rfl⟩
  ·cases hx
  ·have:=hlt m hm
   omega
 have hwl:∀ ts:List T,(∀ t∈ts,wT t<=840)->wL ts<=841 * ts.length:=by
  intro ts
  induction ts with
  | nil=>intro _; simp [wL]
  | cons t ts ih=>
   intro hh
   have a:=hh t (List.mem_cons_self ..)
   have b:=ih fun u hu=>hh u (List.mem_cons_of_mem _ hu)
   simp only [wL,List.length_cons]
   omega
 have:=hwl _ hwb
 refine ⟨⟨⟨hN.1,by omega⟩,fun t ht=>⟨m8 hN.2 t ht,by have:=hwb t ht; omega⟩⟩,qZ hvh,fun t ht=>qZ (ek (hgs t ht)),?_,hl,?_,fun x hx=>⟨(hvs x hx).1,by have:=(hvs x hx).2; omega⟩⟩
 ·exact ES 26 _ 0 (by omega) fun x hx=>(hvs x hx).2
 ·unfold wC; omega
structure okRk (k:Nat) (c:Ch):Prop where
 nb:c.binds.length<=26+26 * k
 nr:c.rest.length<=1+6 * k
 tab:tabM c.binds
 goal:okM c.goal
 rest:∀ g∈c.rest,okM g.1
 pos:0<c.binds.length
def okLp (N:Nat) (l:List Sp):Prop:=∀ x∈l,(okU N x.goal/\wT x.goal<=1048576)/\0<=x.body/\x.body<=6/\-1<=x.clause/\x.clause<=1000000
structure okXk (k:Nat) (s:Se):Prop where
 nb:s.st.binds.length<=26+26 * k
 ng:s.st.goals.length<=1+6 * k
 nc:s.st.chs.length<=k
 ns:s.steps.length<=k
 tab:tabM s.st.binds
 goals:∀ g∈s.st.goals,okM g.1
 chs:∀ c∈s.st.chs,okRk k c
 steps:okLp s.st.binds.length s.steps
 saved:∀ i (h:i<s.st.chs.length) (h':i<s.saved.length),okLp s.st.chs[i].binds.length s.saved[i]
 nv:∀ l∈s.saved,l.length<=k
 pos:0<s.st.binds.length
theorem okRk.up {k:Nat} {c:Ch} (h:okRk k c):okRk (k+1) c:=⟨by have:=h.nb; omega,by have:=h.nr; omega,h.tab,h.goal,h.rest,h.pos⟩
theorem okLp.mono {N M:Nat} {l:List Sp} (h:okLp N l) (hm:N<=M):okLp M l:=fun x hx=>⟨⟨kG hm _ (h x hx).1.1,(h x hx).1.2⟩,(h x hx).2⟩
theorem okXk.up {k:Nat} {s:Se} (h:okXk k s):okXk (k+1) s:=
 ⟨by have:=h.nb; omega,by have:=h.ng; omega,by have:=h.nc; omega,by have:=h.ns; omega,h.tab,h.goals,fun c hc=>(h.chs c hc).up,h.steps,h.saved,fun l hl=>by have:=h.nv l hl; omega,h.pos⟩
theorem FirstL.of {p:List C} {chs:List Ch} {c:Ch} {l:List Int} {o:Option (St6 × Int × List Int)} (h:FirstL p chs c l o):∀ s i r,o=some (s,i,r)->
  ∃ (n:Nat) (cl:C) (st:aC),i=n/\p[n]?=some cl/\s=lV chs c cl [] st/\Uni (zO c.binds cl) (.one c.goal (cH c.binds.length cl.head)) true st:=by
 induction h with
 | nil=>intro s i r h; cases h
 | miss _ _ ih=>exact ih
 | hit ht=>
  intro s i r h
  simp only [Option.some.injEq,Prod.mk.injEq] at h
  obtain ⟨rfl,rfl,rfl⟩:=h
  cases ht with
  | hit hi hu=>exact ⟨_,_,_,rfl,hi,rfl,hu⟩
  | miss _ _ h=>cases h
theorem TakeR.okXk {p:List C} (hp:∀ cl∈p,vM cl) (hpl:p.length<=1000000) {k:Nat} {s s':Se} {c:Ch} (h:TakeR p s c (some s')) (hc:km c) (hr:okRk k c) (hn:s.saved.length=s.st.chs.length)
  (hcs:∀ d∈s.st.chs,okRk k d) (hcn:s.st.chs.length<=k) (hst:okLp c.binds.length s.steps) (hsn:s.steps.length<=k)
  (hsv:∀ i (h:i<s.st.chs.length) (h':i<s.saved.length),okLp s.st.chs[i].binds.length s.saved[i]) (hsvn:∀ l∈s.saved,l.length<=k):okXk (k+1) s':=by
 cases h with
 | @yes u i l hF=>
  obtain ⟨n,cl,st,rfl,hi,rfl,hu⟩:=hF.of _ _ _ rfl
  have hm:=hp cl (List.mem_of_getElem? hi)
  obtain ⟨hg,_⟩:=hu.good (qT hc cl) (Ar hc hm.cf)
  have htab:tabM st:=hu.okM (hr.tab.grow _) ⟨hr.goal,rj _ _ hm.hd⟩
  have hlen:=hg.len
  have hfr:=hm.fr
  have hln:=hm.ln
  have hnb:=hr.nb
  have hnr:=hr.nr
  have hpos:=hr.pos
  have hrn:okRk (k+1) ⟨c.goal,c.rest,l,c.binds⟩:=okRk.up ⟨hnb,hnr,hr.tab,hr.goal,hr.rest,hpos⟩
  refine ⟨?_,?_,?_,?_,htab,?_,?_,?_,?_,?_,?_⟩
  ·simp only [iH,lV]; omega
  ·simp only [iH,lV,List.length_append,List.length_map]; omega
  ·simp only [iH,List.length_append]; split <;> simp <;> omega
  ·simp only [iH,List.length_append,List.length_singleton]; omega
  ·intro g hg
   simp only [iH,lV] at hg
   rcases List.mem_append.1 hg with hg|hg
   ·obtain ⟨t,ht,rfl⟩:=List.mem_map.1 hg
    exact rj _ _ (hm.bd t ht)
   ·exact hr.rest g hg
  ·intro d hd
   simp only [iH] at hd
   rcases List.mem_append.1 hd with hd|hd
   ·exact (hcs d hd).up
   ·split at hd
    ·cases hd
    ·rw [List.mem_singleton] at hd
     subst hd
     exact hrn
  ·intro x hx
   simp only [iH,lV] at hx ⊢
   rcases List.mem_append.1 hx with hx|hx
   ·exact hst.mono (by omega) x hx
   ·rw [List.mem_singleton] at hx
    subst hx
    simp only [Int.toNat_natCast,hi,Option.elim_some]
    exact ⟨⟨kG (by omega) _ hc.goal.1,hc.goal.2⟩,by omega,by omega,by omega,by have:=(List.getElem?_eq_some_iff.1 hi).1; omega⟩
  ·intro j h1 h2
   simp only [iH] at h1 h2 ⊢
   by_cases hl:l=[]
   ·subst hl
    simp only [if_pos,List.append_nil] at h1 h2 ⊢
    exact hsv j h1 h2
   ·simp only [if_neg hl,List.length_append,List.length_singleton] at h1 h2 ⊢
    by_cases hk:j<s.st.chs.length
    ·rw [List.getElem_append_left hk,List.getElem_append_left (by omega)]
     exact hsv j hk (by omega)
    ·have hk1:j=s.st.chs.length:=by omega
     subst hk1
     rw [List.getElem_append_right (Nat.le_refl _),List.getElem_append_right (by omega)]
     simp only [hn,Nat.sub_self,List.getElem_cons_zero]
     exact hst
  ·intro q hq
   simp only [iH] at hq
   rcases List.mem_append.1 hq with hq|hq
   ·have:=hsvn q hq; omega
   ·split at hq
    ·cases hq
    ·rw [List.mem_singleton] at hq
     subst hq
     omega
  ·simp only [iH,lV]; omega
def okBL (cs:List Ch) (ss:List (List Sp)):Prop:=∀ i (h:i<cs.length) (h':i<ss.length),okLp cs[i].binds.length ss[i]
theorem okBL.last {cs:List Ch} {ss:List (List Sp)} {c:Ch} {t:List Sp} (h:okBL (cs++[c]) (ss++[t])) (hl:cs.length=ss.length):okBL cs ss/\okLp c.binds.length t:=by
 constructor
 ·intro i h1 h2
  have:=h i (by simp; omega) (by simp; omega)
  rw [List.getElem_append_left h1,List.getElem_append_left h2] at this
  exact this
 ·have:=h cs.length (by simp) (by simp [hl])
  rw [List.getElem_append_right (Nat.le_refl _),List.getElem_append_right (by omega)] at this
  simp only [hl,Nat.sub_self,List.getElem_cons_zero] at this
  exact this
theorem BackR.okXk {p:List C} (hp:∀ cl∈p,vM cl) (hpl:p.length<=1000000) {k:Nat} {cs:List Ch} {ss:List (List Sp)} {o:Option Se} (h:BackR p cs ss o):cs.length=ss.length->(∀ c∈cs,km c/\okRk k c)->cs.length<=k->okBL cs ss->(∀ l∈ss,l.length<=k)->∀ s,o=some s->Go.Proofs.YtfcbhfjomgopbaaGreat.okXk (k+1) s:=by
 induction h with
 | nil=>intro _ _ _ _ _ s h; cases h
 | hit ht=>
  intro hl hh hk hb hv s h
  simp only [List.length_append,List.length_singleton,Nat.add_right_cancel_iff] at hl hk
  rw [Option.some.injEq] at h
  subst h
  obtain ⟨h1,h2⟩:=hb.last hl
  exact ht.okXk hp hpl (hh _ (by simp)).1 (hh _ (by simp)).2 hl.symm (fun d hd=>(hh d (List.mem_append_left _ hd)).2) (by simp only; omega) h2 (hv _ (by simp)) h1 fun l hl=>hv l (List.mem_append_left _ hl)
 | miss _ _ ih=>
  intro hl hh hk hb hv
  simp only [List.length_append,List.length_singleton,Nat.add_right_cancel_iff] at hl hk
  exact ih hl (fun d hd=>hh d (List.mem_append_left _ hd)) (by omega) (hb.last hl).1 fun l hl=>hv l (List.mem_append_left _ hl)
theorem OneR.okXk {p:List C} (hp:∀ cl∈p,vM cl) (hpl:p.length<=1000000) {k:Nat} {s s':Se} {e:Int} (h:OneR p s s' e) (hs:mp p.length s) (hx:okXk k s):okXk (k+1) s'/\(e=-2->s'=s):=by
 have hgo:=hs.st.goals
 have hgm:=hx.goals
 cases h with
 | big=>exact ⟨hx.up,fun _=>rfl⟩
 | stuck=>exact ⟨hx.up,fun _=>rfl⟩
 | fail=>exact ⟨hx.up,fun _=>rfl⟩
 | err=>exact ⟨hx.up,fun _=>rfl⟩
 | @took g rest u _ hg hu hsm _ _ ht=>
  rw [hg] at hgo hgm
  have hou:=mj hs.st.good hu (hgo _ (List.mem_cons_self ..)).1
  have hw:=lO hsm hou
  have hum:okM u:=Res.okM hx.tab hu (hgm _ (List.mem_cons_self ..))
  have hng:=hx.ng
  rw [hg,List.length_cons] at hng
  refine ⟨ht.okXk hp hpl ⟨hs.st.good,⟨hou,by simp only; omega⟩,fun x hx=>hgo x (List.mem_cons_of_mem _ hx)⟩ ⟨hx.nb,by simp only; omega,hx.tab,hum,fun x hx=>hgm x (List.mem_cons_of_mem _ hx),hx.pos⟩ hs.len hx.chs hx.nc hx.steps hx.ns hx.saved hx.nv,fun e=>(by cases e)⟩
 | @solved g rest u st hg hu hsm _ hb hB=>
  rw [hg] at hgo hgm
  have hou:=mj hs.st.good hu (hgo _ (List.mem_cons_self ..)).1
  have hw:=lO hsm hou
  have hum:okM u:=Res.okM hx.tab hu (hgm _ (List.mem_cons_self ..))
  have hgd:=hB.good hs.st.good hb ⟨hou,by omega⟩
  have hl:=hgd.len
  have hng:=hx.ng
  rw [hg,List.length_cons] at hng
  have hnb:=hx.nb
  have hns:=hx.ns
  have hpos:=hx.pos
  refine ⟨⟨by simp only; omega,by simp only; omega,by have:=hx.nc; simp only; omega,by simp only [List.length_append,List.length_singleton]; omega,hB.okM hx.tab hum,fun x h=>hgm x (List.mem_cons_of_mem _ h),fun c hc=>(hx.chs c hc).up,?_,hx.saved,fun l hl=>by have:=hx.nv l hl; omega,by simp only; omega⟩,fun e=>(by cases e)⟩
  intro x h
  simp only at h ⊢
  rw [hl]
  rcases List.mem_append.1 h with h|h
  ·exact hx.steps x h
  ·rw [List.mem_singleton] at h
   subst h
   exact ⟨⟨hou,by simp only; omega⟩,by simp,by simp,by simp,by simp⟩
theorem CA {t:T} (hm:okM t):okXk 0 (fX t):=by
 refine ⟨by simp [fX],by simp [fX],by simp [fX],by simp [fX],tabM.none 26,?_,fun c hc=>(by cases hc),fun x hx=>(by cases hx),fun i h=>(by simp [fX] at h),fun l hl=>(by cases hl),by simp [fX]⟩
 intro g hg
 simp only [fX,List.mem_singleton] at hg
 subst hg
 exact rj _ _ hm
theorem Srch.okXk {p:List C} (hp:∀ cl∈p,vM cl) (hpl:p.length<=1000000) {n:Nat} {s:Se} {o:Option Se} (h:Srch p n s o):∀ k,mp p.length s->Go.Proofs.YtfcbhfjomgopbaaGreat.okXk k s->∀ t,o=some t->Go.Proofs.YtfcbhfjomgopbaaGreat.okXk (k+n) t:=by
 induction h with
 | @done n s hg=>
  intro k h1 h2 t h
  rw [Option.some.injEq] at h
  subst h
  induction n with
  | zero=>exact h2
  | succ n ih=>exact ih.up
 | out=>intro _ _ _ t h; cases h
 | halt=>intro _ _ _ t h; cases h
 | stop=>intro _ _ _ t h; cases h
 | @step n _ _ _ hg h1 _ ih=>
  intro k hs hx t h
  have:=ih (k+1) (h1.ok (fun cl hc=>(hp cl hc).cf) hs) (h1.okXk hp hpl hs hx).1 t h
  rwa [show k+(n+1)=k+1+n by omega]
 | @back n _ s' _ _ hg h1 h2 _ ih=>
  intro k hs hx t h
  have hs':=h1.ok (fun cl hc=>(hp cl hc).cf) hs
  have e:=(h1.okXk hp hpl hs hx).2 rfl
  subst e
  have:=ih (k+1) (h2.ok (fun cl hc=>(hp cl hc).cf) hs.len.symm hs.st.chs hs.left _ rfl) (h2.okXk hp hpl hs.len.symm (fun c hc=>⟨hs.st.chs c hc,hx.chs c hc⟩) hx.nc hx.saved hx.nv _ rfl) t h
  rwa [show k+(n+1)=k+1+n by omega]
end
section
open Go Go.RowKit
mutual
def pvT:PF->List Int->List Int
 | .mk g _ ks,l=>pvL ks (fe g l)
def pvL:List PF->List Int->List Int
 | [],l=>l
 | p::ps,l=>pvL ps (pvT p l)
end
mutual
def pcT:PF->Int
 | .mk g _ ks=>dF g+pcL ks
def pcL:List PF->Int
 | []=>0
 | p::ps=>pcT p+pcL ps
end
mutual
theorem LO:∀ p:PF,0<=pcT p
 | .mk g _ ks=>by
  have:=jn g
  have:=Ao ks
  rw [pcT]; omega
theorem Ao:∀ ps:List PF,0<=pcL ps
 | []=>by rw [pcL]; omega
 | p::ps=>by
  have:=LO p
  have:=Ao ps
  rw [pcL]; omega
end
mutual
theorem Kt:∀ (p:PF) (l:List Int),((pvT p l).length:Int)<=l.length+pcT p
 | .mk g _ ks,l=>by
  have h1:=mU g l
  have h2:=OO ks (fe g l)
  rw [pvT,pcT]; omega
theorem OO:∀ (ps:List PF) (l:List Int),((pvL ps l).length:Int)<=l.length+pcL ps
 | [],l=>by rw [pvL,pcL]; omega
 | p::ps,l=>by
  have h1:=Kt p l
  have h2:=OO ps (pvT p l)
  rw [pvL,pcL]; omega
end
theorem Nr (ps:List PF) (j:Nat) (h:j<ps.length) (l:List Int):pvL (ps.drop j) l=pvL (ps.drop (j+1)) (pvT ps[j] l):=by
 rw [List.drop_eq_getElem_cons h,pvL]
theorem MO (ps:List PF) (j:Nat) (h:j<ps.length):pcL (ps.drop j)=pcT ps[j]+pcL (ps.drop (j+1)):=by
 rw [List.drop_eq_getElem_cons h,pcL]
section
attribute [local irreducible] Run CondV aB aS
theorem Dz:∀ (p:PF) (S:ae) (cs:List Value) (v:Value) (l:List Int),RdF S cs p->l.length+pcT p<=1000000000->Tri Tryz.prog Jw [v,.agg cs.toArray] [dZ v l] S (HO S (pvT p l)):=by
 refine PF.ind fun g c ks ih S cs v l h hl=>?_
 intro w hI
 obtain ⟨kv,kp,rfl,hg,_,hks⟩:=RdF.iff.1 h
 simp only [PF.goal,PF.clause,PF.kids] at hg hks ⊢
 have hlen:=hks.le
 simp only [maxLen] at hlen
 rw [pcT] at hl
 have hcp:=Ao ks
 refine vY.2 ?_
 dsimp only[vY,aX]
 refine be hI fun b3 w' hI=>?_
 have hI:Inv w (bE [dZ v l]) [.blk b3 (.cells #[.int .i64 g.kind,.int .i64 g.n,.string g.name,kv,.int .i64 c,kp] ah),dZ v l] S w':=hI.perm (List.Perm.swap _ _ _)
 refine ai cP ?_
 refine b0 hI 0 [.int .i64 g.kind,.int .i64 g.n,.string g.name,kv] ac rfl rfl sH ?_
 refine Run.call (A:=[_]) jI jq hI (kj g S _ v l hg (by omega)) fun v' I' S' w'=>?_
 rintro ⟨rfl,rfl⟩ _ hI
 have hl1:=mU g l
 refine ⟨fun i t w'=>∃ (j:Nat) (r:List Int),j<=ks.length/\i=.int .i64 j/\pvL (ks.drop j) r=pvT (.mk g c ks) l/\r.length+pcL (ks.drop j)<=1000000000/\
   Inv w (bE [dZ v l]) [.blk b3 (.cells #[.int .i64 g.kind,.int .i64 g.n,.string g.name,kv,.int .i64 c,kp] ah),dZ t r] S' w',
  fun i _ _=>ks.length - (intOf i).toNat,⟨0,_,Nat.zero_le _,rfl,by rw [List.drop_zero,pvT],by rw [List.drop_zero]; omega,hI⟩,?_⟩
 intro t5 _ _ t0 _ _ _ _ _ _ _ _ _ _ _ _ w'
 rintro ⟨j,r,hj,rfl,hvs,hr,hI⟩
 refine ad hI 0 rfl bk bp rfl ?_
 refine aD hks bS ?_
 refine bA ?_
 refine aI (fun hji=>?_) (fun hji=>?_)
 ·have hj':j<ks.length:=by omega
  rw [Nr ks j hj'] at hvs
  rw [MO ks j hj'] at hr
  have hp1:=Ao (ks.drop (j+1))
  have hp2:=Kt ks[j] r
  refine ad hI 0 rfl bk bp rfl ?_
  refine ch hI hks bS aT hj' (fun _ _=>RdF.length) fun cs' hcs'=>?_
  refine Run.call (A:=[_]) wv vw hI (ih _ (List.getElem_mem hj') S' cs' t0 r hcs' (by omega)) fun v' I' S2 w'=>?_
  rintro ⟨rfl,rfl⟩ _ hI
  refine bn (by omega) ?_
  exact ⟨⟨j+1,_,hj',rfl,hvs,by omega,hI⟩,by simp [intOf]; omega⟩
 have:j=ks.length:=by omega
 subst this
 rw [List.drop_length,pvL] at hvs
 subst hvs
 exact ⟨_,_,_,rfl,hI.pick [false,true],Ext.refl _ _ _,rfl,rfl⟩
end
end
section
open Go Go.RowKit
inductive BKd where
 | one
 | many (n:Nat)
inductive BldR (st:aC):BKd->List Sp->Option (List PF × List Sp)->Prop
 | big {x:Sp} {l:List Sp} {u:T}:Res st (.one x.goal u)->cA u=false->BldR st .one (x::l) none
 | bad {x:Sp} {l:List Sp} {u:T}:Res st (.one x.goal u)->cA u=true->BldR st (.many x.body.toNat) l none->BldR st .one (x::l) none
 | node {x:Sp} {l l1:List Sp} {u:T} {ks:List PF}:Res st (.one x.goal u)->cA u=true->BldR st (.many x.body.toNat) l (some (ks,l1))->BldR st .one (x::l) (some ([.mk u x.clause ks],l1))
 | nil {l:List Sp}:BldR st (.many 0) l (some ([],l))
 | stop {n:Nat} {l:List Sp}:BldR st .one l none->BldR st (.many (n+1)) l none
 | next {n:Nat} {l l1:List Sp} {k:PF}:BldR st .one l (some ([k],l1))->BldR st (.many n) l1 none->BldR st (.many (n+1)) l none
 | cons {n:Nat} {l l1 l2:List Sp} {k:PF} {ks:List PF}:BldR st .one l (some ([k],l1))->BldR st (.many n) l1 (some (ks,l2))->BldR st (.many (n+1)) l (some (k::ks,l2))
theorem BldR.suf {st:aC} {j:BKd} {l:List Sp} {o:Option (List PF × List Sp)} (h:BldR st j l o):∀ ks l2,o=some (ks,l2)->∃ a,l=a++l2:=by
 induction h with
 | big=>intro ks l2 h; cases h
 | bad=>intro ks l2 h; cases h
 | stop=>intro ks l2 h; cases h
 | next=>intro ks l2 h; cases h
 | nil=>
  intro ks l2 h
  simp only [Option.some.injEq,Prod.mk.injEq] at h
  obtain ⟨rfl,rfl⟩:=h
  exact ⟨[],rfl⟩
 | @node x _ _ _ _ _ _ _ ih=>
  intro ks l2 h
  simp only [Option.some.injEq,Prod.mk.injEq] at h
  obtain ⟨rfl,rfl⟩:=h
  obtain ⟨a,rfl⟩:=ih _ _ rfl
  exact ⟨x::a,rfl⟩
 | cons _ _ ih1 ih2=>
  intro ks l2 h
  simp only [Option.some.injEq,Prod.mk.injEq] at h
  obtain ⟨rfl,rfl⟩:=h
  obtain ⟨a,rfl⟩:=ih1 _ _ rfl
  obtain ⟨b,rfl⟩:=ih2 _ _ rfl
  exact ⟨a++b,by rw [List.append_assoc]⟩
def pP:Nat->List Sp->Prop
 | 0,_=>True
 | _+1,[]=>False
 | k+1,x::l=>pP (k+x.body.toNat) l
theorem My:∀ (b a:List Sp) (k:Nat),openP (a++b)->nP (a++b)=0->nP a=k->(∀ x∈b,0<=x.body)->pP k b
 | [],a,k,_,h0,hk,_=>by
  rw [List.append_nil] at h0
  have:k=0:=by omega
  subst this
  trivial
 | x::b,a,k,ho,h0,hk,hb=>by
  have h1:=ho a (x::b) rfl (by simp)
  obtain ⟨m,rfl⟩:∃ m:Nat,k=m+1:=⟨k - 1,by omega⟩
  have hx:=hb x (List.mem_cons_self ..)
  rw [pP]
  refine My b (a++[x]) _ ?_ ?_ ?_ fun y hy=>hb y (List.mem_cons_of_mem _ hy)
  ·rw [List.append_assoc]; exact ho
  ·rw [List.append_assoc]; exact h0
  ·rw [wV]; omega
theorem P8 {N:Nat} {st:aC} (hg:Good N st):∀ (L:Nat) (l:List Sp),l.length<=L->okLp N l->
  (∀ m,pP (m+1) l->∃ o,BldR st .one l o/\∀ ks l2,o=some (ks,l2)->∃ k,ks=[k]/\pP m l2)/\
  (∀ n m,pP (m+n) l->∃ o,BldR st (.many n) l o/\∀ ks l2,o=some (ks,l2)->ks.length=n/\pP m l2):=by
 intro L
 induction L with
 | zero=>
  intro l hl _
  have:=List.eq_nil_of_length_eq_zero (Nat.le_zero.1 hl)
  subst this
  refine ⟨fun m h=>h.elim,fun n m h=>?_⟩
  cases n with
  | zero=>
   refine ⟨_,.nil,fun ks l2 e=>?_⟩
   simp only [Option.some.injEq,Prod.mk.injEq] at e
   obtain ⟨rfl,rfl⟩:=e
   exact ⟨rfl,h⟩
  | succ n=>exact h.elim
 | succ L ih=>
  intro l hl hok
  have hone:∀ (l:List Sp),l.length<=L+1->okLp N l->∀ m,pP (m+1) l->∃ o,BldR st .one l o/\∀ ks l2,o=some (ks,l2)->∃ k,ks=[k]/\pP m l2:=by
   intro l hl hok m hm
   cases l with
   | nil=>exact hm.elim
   | cons x l=>
    obtain ⟨⟨ho,_⟩,_⟩:=hok x (List.mem_cons_self ..)
    obtain ⟨u,hu⟩:=Fv hg x.goal ho
    cases hsm:cA u with
    | false=>exact ⟨_,.big hu hsm,fun _ _ e=>by cases e⟩
    | true=>
     rw [pP] at hm
     obtain ⟨o,h1,h2⟩:=(ih l (by simpa using hl) fun y hy=>hok y (List.mem_cons_of_mem _ hy)).2 x.body.toNat m hm
     match o,h1,h2 with
     | none,h1,_=>exact ⟨_,.bad hu hsm h1,fun _ _ e=>by cases e⟩
     | some (ks,l1),h1,h2=>
      refine ⟨_,.node hu hsm h1,fun ks' l2 e=>?_⟩
      simp only [Option.some.injEq,Prod.mk.injEq] at e
      obtain ⟨rfl,rfl⟩:=e
      exact ⟨_,rfl,(h2 _ _ rfl).2⟩
  refine ⟨hone l hl hok,?_⟩
  intro n
  induction n generalizing l with
  | zero=>
   intro m hm
   refine ⟨_,.nil,fun ks l2 e=>?_⟩
   simp only [Option.some.injEq,Prod.mk.injEq] at e
   obtain ⟨rfl,rfl⟩:=e
   exact ⟨rfl,hm⟩
  | succ n ihn=>
   intro m hm
   obtain ⟨o,h1,h2⟩:=hone l hl hok (m+n) hm
   match o,h1,h2 with
   | none,h1,_=>exact ⟨_,.stop h1,fun _ _ e=>by cases e⟩
   | some (ks,l1),h1,h2=>
    obtain ⟨k,rfl,hk⟩:=h2 _ _ rfl
    obtain ⟨a,rfl⟩:=h1.suf _ _ rfl
    have hl1:l1.length<=L+1:=by rw [List.length_append] at hl; omega
    obtain ⟨o,h3,h4⟩:=ihn l1 hl1 (fun y hy=>hok y (List.mem_append_right _ hy)) m hk
    match o,h3,h4 with
    | none,h3,_=>exact ⟨_,.next h1 h3,fun _ _ e=>by cases e⟩
    | some (ks,l2),h3,h4=>
     refine ⟨_,.cons h1 h3,fun ks' l2' e=>?_⟩
     simp only [Option.some.injEq,Prod.mk.injEq] at e
     obtain ⟨rfl,rfl⟩:=e
     exact ⟨by rw [List.length_cons,(h4 _ _ rfl).1],(h4 _ _ rfl).2⟩
theorem Rn {n k:Nat} {s:Se} (hs:mp n s) (hp:okP s) (hg:s.st.goals=[]) (hx:okXk k s):∃ o,BldR s.st.binds .one s.steps o/\∀ ks l2,o=some (ks,l2)->∃ x,ks=[x]:=by
 have hn:pP 1 s.steps:=by
  refine My s.steps [] 1 hp.openP ?_ rfl fun x hx'=>(hx.steps x hx').2.1
  have:=hp.goals
  rw [hg] at this
  simpa using this.symm
 obtain ⟨o,h1,h2⟩:=(P8 hs.st.good _ s.steps (Nat.le_refl _) hx.steps).1 0 hn
 exact ⟨o,h1,fun ks l2 e=>(h2 ks l2 e).imp fun _ h=>h.1⟩
mutual
def pwT:PF->Prop
 | .mk g _ ks=>wT g<=840/\pwL ks
def pwL:List PF->Prop
 | []=>True
 | p::ps=>pwT p/\pwL ps
end
theorem LQ:∀ {ps:List PF},pwL ps->∀ p∈ps,pwT p
 | p::ps,h,x,hx=>by
  rw [pwL] at h
  rcases List.mem_cons.1 hx with rfl|hx
  ·exact h.1
  ·exact LQ h.2 x hx
theorem BldR.size {N:Nat} {st:aC} (hg:Good N st) {j:BKd} {l:List Sp} {o:Option (List PF × List Sp)} (h:BldR st j l o):okLp N l->∀ ks l2,o=some (ks,l2)->pcL ks+120 * (l2.length:Int)<=120 * (l.length:Int)/\pwL ks:=by
 induction h with
 | big=>intro _ ks l2 h; cases h
 | bad=>intro _ ks l2 h; cases h
 | stop=>intro _ ks l2 h; cases h
 | next=>intro _ ks l2 h; cases h
 | nil=>
  intro _ ks l2 h
  simp only [Option.some.injEq,Prod.mk.injEq] at h
  obtain ⟨rfl,rfl⟩:=h
  exact ⟨by rw [pcL]; omega,trivial⟩
 | @node x l _ u _ hu hsm _ ih=>
  intro ho ks l2 h
  simp only [Option.some.injEq,Prod.mk.injEq] at h
  obtain ⟨rfl,rfl⟩:=h
  obtain ⟨h1,h2⟩:=ih (fun y hy=>ho y (List.mem_cons_of_mem _ hy)) _ _ rfl
  have hou:okU N u:=mj hg hu (ho x (List.mem_cons_self ..)).1.1
  have hw:=lO hsm hou
  rw [cA,Bool.and_eq_true] at hsm
  have hc:=of_decide_eq_true hsm.1
  refine ⟨?_,?_⟩
  ·rw [pcL,pcL,pcT,List.length_cons]; omega
  ·rw [pwL,pwT,pwL]; exact ⟨⟨hw,h2⟩,trivial⟩
 | @cons _ l l1 l2 k ks' h1 _ ih1 ih2=>
  intro ho ks l3 h
  simp only [Option.some.injEq,Prod.mk.injEq] at h
  obtain ⟨rfl,rfl⟩:=h
  obtain ⟨a,e⟩:=h1.suf _ _ rfl
  obtain ⟨q1,q2⟩:=ih1 ho _ _ rfl
  obtain ⟨q3,q4⟩:=ih2 (fun y hy=>ho y (by rw [e]; exact List.mem_append_right _ hy)) _ _ rfl
  rw [pcL,pcL] at q1
  rw [pwL] at q2
  refine ⟨?_,?_⟩
  ·rw [pcL]; omega
  ·rw [pwL]; exact ⟨q2.1,q4⟩
end
section
open Go Go.RowKit
section
attribute [local irreducible] Run CondV aB aS
theorem PM {N:Nat} {st:aC} (hg:Good N st) {t v:T} (hw:cS st t v) (ht:okU N t) {S:ae} {cs:List Value} {v0:Value} (h:RdT S cs t) (hk:RdSl S 4 (RdO S) v0 st) (h0:0<N) :
  Tri Tryz.prog Cv [.agg cs.toArray,v0] [] S fun r I' S'=>S'=S/\I'=[]/\∃ cs',r=.agg cs'.toArray/\RdT S cs' v:=by
 intro w hI
 obtain ⟨X,hX⟩:∃ X,X=bE []:=⟨_,rfl⟩
 rw [<- hX] at hI ⊢
 have hlN:=hg.len
 obtain ⟨r,hr⟩:=hg.rk
 obtain ⟨kb,o,kp,kc,E,fz,rfl,hSb,hT⟩:=hk.ptr (by omega)
 rw [hlN]
 refine l9.2 ?_
 dsimp only[l9,aX]
 refine be hI fun b2 w' hI=>?_
 refine aG hI aP fun b4 w' hI=>?_
 have hI:Inv w X [.blk b2 (.cells cs.toArray ab),.blk b4 (.cells #[.int .i64 0,.int .i64 0,.string ⟨#[]⟩,.slice none 0 0] ab)] S w':=hI
 refine ⟨fun w'=>∃ (t':T) (cs':List Value),cS st t' v/\okU N t'/\RdT S cs' t'/\Inv w X [.blk b2 (.cells cs'.toArray ab),.blk b4 (.cells #[.int .i64 0,.int .i64 0,.string ⟨#[]⟩,.slice none 0 0] ab)] S w',
  fun w'=>qQ b2 r st w',⟨t,cs,hw,ht,h,hI⟩,?_⟩
 intro _ _ _ _ _ _ _ _ _ _ _ _ _ _ _ _ _ _ _ _ _ _ _ _ w'
 rintro ⟨t',cs',hw',ht',hcs',hI⟩
 have hrank:=mX hI (i:=0) rfl hcs' r st
 have hcs0:=hcs'
 obtain ⟨kv,rfl,_⟩:=RdT.iff.1 hcs'
 refine ⟨fun q w'=>q=.bool (look st t').isSome/\Inv w X [.blk b2 (.cells #[.int .i64 t'.kind,.int .i64 t'.n,.string t'.name,kv] ab),.blk b4 (.cells #[.int .i64 0,.int .i64 0,.string ⟨#[]⟩,.slice none 0 0] ab)] S w',?_,?_⟩
 ·refine ad hI 0 rfl aE aw rfl ?_
  refine aY ?_
  by_cases hk1:t'.kind=1
  ·rw [decide_eq_true hk1]
   obtain ⟨hn0,hnN,_⟩:=ht'.var hk1
   obtain ⟨j,hj⟩:∃ j:Nat,t'.n=j:=⟨t'.n.toNat,by omega⟩
   have hjN:j<N:=by omega
   have hjs:j<st.length:=by omega
   refine rpG ?_
   refine ad hI 0 rfl aK aw rfl ?_
   refine dX af ?_
   refine bA ?_
   rw [decide_eq_true hnN]
   refine rpG ?_
   refine ad hI 0 rfl aK aw rfl ?_
   rw [hj]
   refine au af hjN ?_
   refine ai aE ?_
   rw [Nat.add_zero]
   have hTj:=hT j hjs
   rw [hj] at hI
   have hlk:look st t'=st[j]:=by
    rw [look,if_pos hk1,hj,Int.toNat_natCast,List.getElem?_eq_getElem hjs]; rfl
   rw [hlk]
   cases hst2:st[j] with
   | none=>
    rw [hst2] at hTj
    have hcell:aH kc (o+j * 4) 4=md:=hTj
    refine cz aw (by rw [hI.cellS hSb]; exact ar hcell 0 _ rfl) ?_
    refine cE ?_
    refine rpG ?_
    refine ⟨by simp,hI⟩
   | some t0=>
    rw [hst2] at hTj
    have hR:RdT S (aH kc (o+j * 4) 4) t0:=hTj
    have hk0:t0.kind≠0:=(hg.ok t0 (by rw [<- hst2]; exact List.getElem_mem hjs)).kind
    obtain ⟨kv0',hcell,_,_,_,_⟩:=RdT.iff.1 hR
    refine cz aw (by rw [hI.cellS hSb]; exact ar hcell 0 _ rfl) ?_
    refine cE ?_
    rw [decide_eq_false hk0]
    refine rpG ?_
    refine ⟨rfl,hI⟩
  ·rw [decide_eq_false hk1]
   refine rpG ?_
   refine ⟨?_,hI⟩
   rw [look,if_neg hk1]; rfl
 intro q _ _ _ _ _ _ _ _ _ _ _ _ _ _ _ _ _ _ w'
 rintro ⟨rfl,hI⟩
 refine az (fun hb=>?_) (fun hb=>?_)
 ·obtain ⟨u,hl⟩:=Option.isSome_iff_exists.1 hb
  obtain ⟨hk1,hs⟩:=cT.1 hl
  obtain ⟨hn0,hnN,_⟩:=ht'.var hk1
  obtain ⟨j,hj⟩:∃ j:Nat,t'.n=j:=⟨t'.n.toNat,by omega⟩
  have hjN:j<N:=by omega
  have hjs:j<st.length:=by omega
  rw [hj,Int.toNat_natCast] at hs
  have hst2:st[j]=some u:=by rw [List.getElem?_eq_getElem hjs,Option.some.injEq] at hs; exact hs
  have hR:RdT S (aH kc (o+j * 4) 4) u:=by
   have hTj:=hT j hjs
   rw [hst2] at hTj
   exact hTj
  have hwu:cS st u v:=by
   cases hw' with
   | stop h0=>rw [hl] at h0; cases h0
   | step h1 h2=>rw [hl,Option.some.injEq] at h1; rw [h1]; exact h2
  have hu:=(hg.look_ok hl).1
  refine ad hI 0 rfl aK aw rfl ?_
  rw [hj]
  refine au af hjN ?_
  refine bw ac hR.length (fun i v hi=>by rw [hI.cellS hSb]; exact ar rfl i v hi) ?_
  refine ao hI 0 rfl ac (by simpa using hR.length) rfl (by simpa using hR.one) fun w' hI=>?_
  have hI:Inv w X [.blk b2 (.cells (aH kc (o+j * 4) 4).toArray ab),.blk b4 (.cells #[.int .i64 0,.int .i64 0,.string ⟨#[]⟩,.slice none 0 0] ab)] S w':=hI
  refine ⟨⟨u,_,hwu,hu,hR,hI⟩,?_⟩
  have hrank2:=mX hI (i:=0) rfl hR r st
  show qQ b2 r st w'<qQ b2 r st _
  rw [hrank,hrank2,if_pos hb,hj,Int.toNat_natCast]
  split
  ·rename_i hl2
   obtain ⟨u2,hl2⟩:=Option.isSome_iff_exists.1 hl2
   have:=hr j u hs u.n.toNat (by rw [ie (cT.1 hl2).1]; exact List.mem_singleton.2 rfl)
   omega
  ·omega
 ·have hv:v=t':=by
   cases hw' with
   | stop _=>rfl
   | step h1 _=>rw [h1] at hb; cases hb
  subst hv
  refine aq hI 0 ac rfl rfl ?_
  refine ao hI 1 rfl ac rfl rfl (by simpa using hcs0.one) fun w' hI=>?_
  refine aW hI 1 ac rfl rfl ?_
  exact ⟨_,_,_,rfl,hI.pick [false,false],Ext.refl _ _ _,rfl,rfl,_,rfl,hcs0⟩
def Rd (u:T) (room:Int):Value->List Item->ae->Prop:=fun q I' S'=>I'=[]/\
 ∃ cs':List Value,cs'.length=4/\(∀ x∈cs',x.oneCell'=true)/\q=.tuple #[.agg cs'.toArray,.int .i64 (if dF u<=room then room - dF u else -1)]/\(dF u<=room->RdT S' cs' u)
def FCT (st:aC) (t u:T):Prop:=∀ (S:ae) (cs:List Value) (v0:Value) (room:Int),RdT S cs t->RdSl S 4 (RdO S) v0 st->-1<=room->room<=1000000->
 Tri Tryz.prog Bb [.agg cs.toArray,v0,.int .i64 room] [] S (Rd u room)
theorem GQ {N:Nat} {st:aC} (hN0:0<N) {t v:T} {us:List T} (hg:Good N st) (hwv:cS st t v) (hot:okU N t/\wT t<=1048576) (hlu:us.length=v.kids.length)
  (hk:∀ i (h:i<us.length) (h':i<v.kids.length),FCT st v.kids[i] us[i]):FCT st t (.mk v.kind v.n v.name us):=by
 intro S cs v0 room h hkc hr0 hr1 w hI
 have hlc:=h.length
 have hov:=dN hg hwv hot
 obtain ⟨X,hX⟩:∃ X,X=bE []:=⟨_,rfl⟩
 rw [<- hX] at hI ⊢
 have hcu:=dR us
 refine mf.2 ?_
 dsimp only[mf,cX]
 refine be hI fun b3 w' hI=>?_
 refine aG hI aP fun b6 w' hI=>?_
 have hI:Inv w X ([.blk b3 (.cells cs.toArray ab),.blk b6 (.cells #[.int .i64 0,.int .i64 0,.string ⟨#[]⟩,.slice none 0 0] ab)]++[]) S w':=hI
 refine bA ?_
 refine aI (fun hlt=>?_) (fun hlt=>?_)
 ·refine fD ?_
  refine ao hI 1 rfl ac rfl rfl ju fun w' hI=>?_
  refine aW hI 1 ac rfl rfl ?_
  refine ⟨_,_,_,rfl,hI.pick [false,false],Ext.refl _ _ _,rfl,_,rfl,ju,?_,fun h=>?_⟩
  ·rw [gz,if_neg (by omega)]
  ·rw [gz] at h; omega
 refine aq hI 0 ac rfl (by simpa using hlc) ?_
 refine Run.call lX lF hI (PM hg hwv hot.1 h hkc hN0) fun v' I' S' w'=>?_
 rintro ⟨eS,rfl,cs',rfl,hcs'⟩ _ hI
 rw [eS] at hI
 clear eS
 refine ao hI 0 rfl ac (by simpa using hcs'.length) (by simpa using hlc) (by simpa using hcs'.one) fun w' hI=>?_
 obtain ⟨kv,rfl,hi1,hi2,hs,hks⟩:=RdT.iff.1 hcs'
 have hI:Inv w X [.blk b3 (.cells #[.int .i64 v.kind,.int .i64 v.n,.string v.name,kv] ab),.blk b6 (.cells #[.int .i64 0,.int .i64 0,.string ⟨#[]⟩,.slice none 0 0] ab)] S w':=hI
 have hlen:=hks.le
 have hkl:v.kids.length<=1048576:=by
  have:=hov.2
  cases v
  simp only [wT] at this
  simp only [T.kids]
  omega
 refine ad hI 0 rfl aE aw rfl ?_
 refine ad hI 0 rfl aK aw rfl ?_
 refine ad hI 0 rfl aM aJ rfl ?_
 refine gf ?_
 refine aG hI aP fun b8 w' hI=>?_
 have hI:Inv w X [.blk b3 (.cells #[.int .i64 v.kind,.int .i64 v.n,.string v.name,kv] ab),.blk b6 (.cells #[.int .i64 0,.int .i64 0,.string ⟨#[]⟩,.slice none 0 0] ab),.blk b8 _] S w':=hI
 refine ao hI 2 rfl ac rfl rfl (by simp [Value.oneCell']) fun w' hI=>?_
 refine ib (by omega) ?_
 have hI:=hI.rowNil ab 4
 have hI:Inv w X [.blk b3 (.cells #[.int .i64 v.kind,.int .i64 v.n,.string v.name,kv] ab),.blk b6 (.cells #[.int .i64 0,.int .i64 0,.string ⟨#[]⟩,.slice none 0 0] ab),.blk b8 (.cells #[.int .i64 v.kind,.int .i64 v.n,.string v.name,.slice none 0 0] ab),aL (.slice none 0 0) ab 4 []] S w':=hI
 refine ⟨fun i l w'=>∃ (j:Nat) (left:Int) (kvc:Value) (css:List (List Value)) (S1:ae),j<=us.length/\i=.int .i64 j/\l=.int .i64 left/\Ext w.heap.size X S S1/\css.length=j/\
   ((left=room - 1 - dc (us.take j)/\0<=left/\Rows 4 (RdT S1) css (us.take j)) ∨ (left=-1/\room - 1<dc us))/\
   Inv w X [.blk b3 (.cells #[.int .i64 v.kind,.int .i64 v.n,.string v.name,kv] ab),.blk b6 (.cells #[.int .i64 0,.int .i64 0,.string ⟨#[]⟩,.slice none 0 0] ab),.blk b8 (.cells #[.int .i64 v.kind,.int .i64 v.n,.string v.name,kvc] ab),aL kvc ab 4 css] S1 w',
  fun i _ _=>us.length - (intOf i).toNat,⟨0,room - 1,_,[],S,Nat.zero_le _,rfl,rfl,Ext.refl _ _ _,rfl,.inl ⟨by simp [dc],by omega,Rows.nil _ _⟩,hI⟩,?_⟩
 intro t10 _ _ t9 _ _ _ _ _ _ _ _ _ _ _ _ _ _ _ _ _ _ _ _ _ _ _ _ _ _ _ _ _ w'
 rintro ⟨j,left,kvc,css,S1,hj,rfl,rfl,hE,hcl,hst,hI⟩
 refine ⟨fun q w'=>q=.bool (decide (j<us.length/\0<=left))/\Inv w X [.blk b3 (.cells #[.int .i64 v.kind,.int .i64 v.n,.string v.name,kv] ab),.blk b6 (.cells #[.int .i64 0,.int .i64 0,.string ⟨#[]⟩,.slice none 0 0] ab),.blk b8 (.cells #[.int .i64 v.kind,.int .i64 v.n,.string v.name,kvc] ab),aL kvc ab 4 css] S1 w',?_,?_⟩
 ·refine ad hI 0 rfl al ag rfl ?_
  refine aD hks af ?_
  refine bA ?_
  by_cases e1:(j:Int)<(v.kids.length:Nat)
  ·rw [decide_eq_true e1]
   refine rpG ?_
   refine fY ?_
   refine rpG ?_
   refine ⟨?_,hI⟩
   congr 1
   rw [Bool.eq_iff_iff,decide_eq_true_eq,decide_eq_true_eq]
   omega
  ·rw [decide_eq_false e1]
   refine rpG ?_
   refine ⟨?_,hI⟩
   rw [decide_eq_false (by omega)]
 intro q _ _ _ _ _ _ _ _ w'
 rintro ⟨rfl,hI⟩
 refine aI (fun hgo=>?_) (fun hgo=>?_)
 ·obtain ⟨hj1,hl0⟩:=hgo
  have hj2:j<v.kids.length:=by omega
  obtain ⟨hleft,_,hR⟩:left=room - 1 - dc (us.take j)/\0<=left/\Rows 4 (RdT S1) css (us.take j):=by
   rcases hst with h1|⟨h1,_⟩
   ·exact h1
   ·omega
  have hpos:=dR (us.take j)
  refine ad hI 0 rfl al ag rfl ?_
  refine ch hI (hks.monoT hE.1) af ac hj2 (fun _ _=>RdT.length) fun cs0 hcs0=>?_
  have hI:Inv w X ([.blk b3 (.cells #[.int .i64 v.kind,.int .i64 v.n,.string v.name,kv] ab),.blk b6 (.cells #[.int .i64 0,.int .i64 0,.string ⟨#[]⟩,.slice none 0 0] ab),.blk b8 (.cells #[.int .i64 v.kind,.int .i64 v.n,.string v.name,kvc] ab),aL kvc ab 4 css]++[]) S1 _:=hI
  refine Run.callE mi l6 hI (hk j hj1 hj2 S1 cs0 v0 left hcs0 (hkc.mono hE.1 fun _ _ h=>RdO.mono hE.1 h) (by omega) (by omega)) fun v' I' S2 w'=>?_
  rintro ⟨rfl,cs2,hl4,ho4,rfl,hrd⟩ hE2 hI
  refine aj rfl ?_
  refine aj rfl ?_
  refine aG hI aP fun b11 w' hI=>?_
  have hI:=hI.perm (M:=.blk b11 _::[.blk b3 (.cells #[.int .i64 v.kind,.int .i64 v.n,.string v.name,kv] ab),.blk b6 (.cells #[.int .i64 0,.int .i64 0,.string ⟨#[]⟩,.slice none 0 0] ab),.blk b8 (.cells #[.int .i64 v.kind,.int .i64 v.n,.string v.name,kvc] ab),aL kvc ab 4 css]) (List.perm_append_comm (l₁:=[_]))
  refine ao hI 0 rfl ac (by simpa using hl4) rfl (by simpa using ho4) fun w' hI=>?_
  refine ad (b:=b8) (c:=#[.int .i64 v.kind,.int .i64 v.n,.string v.name,kvc]) hI 3 rfl al ag rfl ?_
  refine aq hI 0 ac rfl (by simpa using hl4) ?_
  refine dM hI 4 cs2 bm (by omega) (by omega) rfl hl4 ho4 (by omega) (by omega) fun kvc2 w' hI=>?_
  have hkv2:=iK (hI.its (aL kvc2 ab 4 (css++[cs2])) (by simp))
  refine cG (b:=b8) (c:=#[.int .i64 v.kind,.int .i64 v.n,.string v.name,kvc]) hI 3 rfl al ag rfl hkv2.1 hkv2.2 fun w' hI=>?_
  have hI:Inv w X [.blk b3 (.cells #[.int .i64 v.kind,.int .i64 v.n,.string v.name,kv] ab),.blk b6 (.cells #[.int .i64 0,.int .i64 0,.string ⟨#[]⟩,.slice none 0 0] ab),.blk b8 (.cells #[.int .i64 v.kind,.int .i64 v.n,.string v.name,kvc2] ab),aL kvc2 ab 4 (css++[cs2])] S2 w':=hI.pick [false,true,true,true,true]
  refine bn (by omega) ?_
  have hct:=xB us j hj1
  have hcle:=n6 us (j+1)
  have hc0:=jn us[j]
  refine ⟨⟨j+1,_,kvc2,css++[cs2],S2,hj1,rfl,rfl,hE.trans hE2,by simp [hcl],?_,hI⟩,by simp [intOf]; omega⟩
  by_cases hfit:dF us[j]<=left
  ·left
   rw [if_pos hfit]
   refine ⟨by omega,by omega,?_⟩
   rw [List.take_succ_eq_append_getElem hj1]
   exact (hR.monoR fun _ _ h=>RdT.mono hE2.1 h).snoc (hrd hfit) hl4
  ·right
   rw [if_neg hfit]
   exact ⟨rfl,by omega⟩
 ·refine aq (b:=b8) (c:=#[.int .i64 v.kind,.int .i64 v.n,.string v.name,kvc]) hI 2 ac rfl rfl ?_
  have hkv2:=iK (hI.its (aL kvc ab 4 css) (by simp))
  have hone:∀ x∈([.int .i64 v.kind,.int .i64 v.n,.string v.name,kvc]:List Value),x.oneCell'=true:=by
   intro x hx
   simp at hx
   rcases hx with rfl|rfl|rfl|rfl <;> first|rfl|exact hkv2.2
  refine ao hI 1 rfl ac rfl rfl hone fun w' hI=>?_
  refine aW (c:=#[.int .i64 v.kind,.int .i64 v.n,.string v.name,kvc]) hI 1 ac rfl rfl ?_
  have hI:Inv w X ([]++[aL kvc ab 4 css]) S1 w':=hI.pick [false,false,false,true]
  rcases hst with ⟨h1,h2,hR⟩|⟨h1,h2⟩
  ·have hje:j=us.length:=by omega
   rw [hje,List.take_length] at h1 hR
   obtain ⟨S3,hE3,hrd,hI⟩:=hI.lendExt
   have hrr:=RowRd.rows (hR.monoR fun _ _ h=>RdT.mono hE3.1 h) hrd
   refine ⟨_,_,_,rfl,hI,hE.trans hE3,rfl,[.int .i64 v.kind,.int .i64 v.n,.string v.name,kvc],rfl,hone,?_,fun _=>RdT.iff.2 ⟨kvc,rfl,hi1,hi2,hs,hrr⟩⟩
   rw [gz,if_pos (by omega),show left=room - (1+dc us) by omega]
  ·refine ⟨_,_,_,rfl,hI.sub (List.sublist_append_left _ _),hE,rfl,[.int .i64 v.kind,.int .i64 v.n,.string v.name,kvc],rfl,hone,?_,fun h=>?_⟩
   ·rw [gz,if_neg (by omega),h1]
   ·rw [gz] at h; omega
theorem QK {N:Nat} {st:aC} (hN0:0<N) (hg:Good N st) {j:M9} (hr:Res st j):match j with
  | .one t u=>(okU N t/\wT t<=1048576)->FCT st t u
  | .list ts us=>(∀ t∈ts,okU N t/\wT t<=1048576)->us.length=ts.length/\∀ i (h:i<us.length) (h':i<ts.length),FCT st ts[i] us[i]:=by
 induction hr with
 | one hw _ ih=>
  intro ho
  have h1:=ih (jf (dN hg hw ho))
  exact GQ hN0 hg hw ho h1.1 h1.2
 | nil=>exact fun _=>⟨rfl,fun i h _=>by simp at h⟩
 | cons _ _ ih1 ih2=>
  intro ho
  obtain ⟨h1,h2⟩:=ih2 fun t ht=>ho t (List.mem_cons_of_mem _ ht)
  refine ⟨by simp [h1],fun i h h'=>?_⟩
  cases i with
  | zero=>exact ih1 (ho _ (List.mem_cons_self ..))
  | succ i=>exact h2 i (by simpa using h) (by simpa using h')
def Qx (u:T):Value->List Item->ae->Prop:=fun q I' S'=>I'=[]/\
 ∃ cs':List Value,cs'.length=4/\(∀ x∈cs',x.oneCell'=true)/\q=.tuple #[.agg cs'.toArray,.bool (cA u)]/\(cA u=true->RdT S' cs' u)
theorem He {N:Nat} {st:aC} (hN0:0<N) (hg:Good N st) {t u:T} (hr:Res st (.one t u)) (ho:okU N t/\wT t<=1048576) {S:ae} {cs:List Value} {v0:Value} (h:RdT S cs t) (hkc:RdSl S 4 (RdO S) v0 st) :
  Tri Tryz.prog Im [.agg cs.toArray,v0] [] S (Qx u):=by
 intro w hI
 have hlc:=h.length
 obtain ⟨X,hX⟩:∃ X,X=bE []:=⟨_,rfl⟩
 rw [<- hX] at hI ⊢
 have hfull:FCT st t u:=QK hN0 hg hr ho
 refine ui.2 ?_
 dsimp only[ui,aX]
 refine be hI fun b2 w' hI=>?_
 refine aG hI aP fun b4 w' hI=>?_
 have hI:Inv w X ([.blk b2 (.cells cs.toArray ab),.blk b4 (.cells #[.int .i64 0,.int .i64 0,.string ⟨#[]⟩,.slice none 0 0] ab)]++[]) S w':=hI
 refine aq hI 0 ac rfl (by simpa using hlc) ?_
 refine Run.callE mi l6 hI (hfull S cs v0 120 h hkc (by omega) (by omega)) fun v' I' S1 w'=>?_
 rintro ⟨rfl,cs',hl4,ho4,rfl,hrd⟩ hE hI
 refine aj rfl ?_
 refine aj rfl ?_
 refine aG hI aP fun b6 w' hI=>?_
 have hI:Inv w X [.blk b2 (.cells cs.toArray ab),.blk b4 (.cells #[.int .i64 0,.int .i64 0,.string ⟨#[]⟩,.slice none 0 0] ab),.blk b6 _] S1 w':=hI
 refine ao hI 2 rfl ac (by simpa using hl4) rfl (by simpa using ho4) fun w' hI=>?_
 have hI:Inv w X [.blk b2 (.cells cs.toArray ab),.blk b4 (.cells #[.int .i64 0,.int .i64 0,.string ⟨#[]⟩,.slice none 0 0] ab),.blk b6 (.cells cs'.toArray ab)] S1 w':=hI
 by_cases hc:dF u<=120
 ·rw [if_pos hc]
  have hc0:=jn u
  have hru:=hrd hc
  refine ⟨fun D x5 ki ml rR nT wD zY tI w_=>Fx D 0 [tI=.agg cs'.toArray,zY=.int .i64 (120 - dF u),wD=.bool true,nT=.bool true,rR=.agg cs'.toArray,ml=.bool (qf u 30),ki=.bool (qf u 30),True,x5=.bool (qf u 30)]/\Inv w X [.blk b2 (.cells cs.toArray ab),.blk b4 (.cells (cond (D 7) cs'.toArray #[.int .i64 0,.int .i64 0,.string ⟨#[]⟩,.slice none 0 0]) ab),.blk b6 (.cells cs'.toArray ab)] S1 w_,⟨Fx.nil _ _,hI.draw⟩,⟨?_,?_,?_,?_,?_,?_,?_,?_,?_,trivial⟩,?_⟩
  all_goals (intro D bo; intros; rename_i x5 ki ml rR nT wD zY tI w_ hA_; have hF_:=hA_.1; obtain ⟨⟨bU,bV,bH,bR,bZ,bI,bB,ct,cF,_⟩,hI⟩:=hA_)
  ·refine aq hI 2 ac rfl (by simpa using hl4) ?_
   exact ⟨hF_.set 0 rfl,hI⟩
  ·exact ⟨hF_.set 1 rfl,hI⟩
  ·obtain rfl:=bV ‹_›
   refine fY ?_
   rw [decide_eq_true (by omega)]
   exact ⟨hF_.set 2 rfl,hI⟩
  ·obtain rfl:=bH ‹_›
   exact ⟨hF_.set 3 rfl,hI⟩
  ·obtain rfl:=bR ‹_›
   refine rpG ?_
   refine aq hI 2 ac rfl (by simpa using hl4) ?_
   exact ⟨hF_.set 4 rfl,hI⟩
  ·obtain rfl:=bZ ‹_›
   obtain rfl:=bR ‹_›
   refine rpG ?_
   refine Run.callPure yG yH hI (GV u 30 S1 cs' hru (by omega) (by omega)) fun w_ hI=>?_
   exact ⟨hF_.set 5 rfl,hI⟩
  ·obtain rfl:=bR ‹_›
   obtain rfl:=bI ‹_›
   refine rpG ?_
   exact ⟨hF_.set 6 rfl,hI⟩
  ·obtain rfl:=bU ‹_›
   rw [bo] at hI
   refine ao hI 1 rfl ac (by simpa using hl4) rfl (by simpa using ho4) fun w_ hI=>?_
   exact ⟨hF_.set 7 trivial,hI⟩
  ·obtain rfl:=bB ‹_›
   exact ⟨hF_.set 8 rfl,hI⟩
  obtain ⟨rfl,rfl,rfl,rfl,rfl,rfl,rfl,_,rfl,_⟩:=hF_.all
  have vG:D 7=true:=by assumption
  clear hF_ bU bV bH bR bZ bI bB ct cF
  rw [vG] at hI
  refine aW hI 1 ac rfl (by simpa using hl4) ?_
  have e:cA u=qf u 30:=by rw [cA,decide_eq_true hc,Bool.true_and]
  exact ⟨_,_,_,rfl,hI.pick [false,false,false],hE,rfl,cs',hl4,ho4,by rw [e]; rfl,fun _=>hru⟩
 ·rw [if_neg hc]
  refine ⟨fun D x5 ki ml rR nT wD zY tI w_=>Fx D 0 [tI=.agg cs'.toArray,zY=.int .i64 (-1),wD=.bool false,nT=.bool false,rR=undef,ml=undef,ki=.bool false,True,x5=.bool false]/\Inv w X [.blk b2 (.cells cs.toArray ab),.blk b4 (.cells (cond (D 7) cs'.toArray #[.int .i64 0,.int .i64 0,.string ⟨#[]⟩,.slice none 0 0]) ab),.blk b6 (.cells cs'.toArray ab)] S1 w_,⟨Fx.nil _ _,hI.draw⟩,⟨?_,?_,?_,?_,?_,?_,?_,?_,?_,trivial⟩,?_⟩
  all_goals (intro D bo; intros; rename_i x5 ki ml rR nT wD zY tI w_ hA_; have hF_:=hA_.1; obtain ⟨⟨bU,bV,bH,bR,bZ,bI,bB,ct,cF,_⟩,hI⟩:=hA_)
  ·refine aq hI 2 ac rfl (by simpa using hl4) ?_
   exact ⟨hF_.set 0 rfl,hI⟩
  ·exact ⟨hF_.set 1 rfl,hI⟩
  ·obtain rfl:=bV ‹_›
   refine fY ?_
   rw [decide_eq_false (by omega)]
   exact ⟨hF_.set 2 rfl,hI⟩
  ·obtain rfl:=bH ‹_›
   exact ⟨hF_.set 3 rfl,hI⟩
  ·obtain rfl:=bR ‹_›
   refine rpG ?_
   exact ⟨hF_.set 4 rfl,hI⟩
  ·obtain rfl:=bZ ‹_›
   obtain rfl:=bR ‹_›
   refine rpG ?_
   exact ⟨hF_.set 5 rfl,hI⟩
  ·obtain rfl:=bR ‹_›
   obtain rfl:=bI ‹_›
   refine rpG ?_
   exact ⟨hF_.set 6 rfl,hI⟩
  ·obtain rfl:=bU ‹_›
   rw [bo] at hI
   refine ao hI 1 rfl ac (by simpa using hl4) rfl (by simpa using ho4) fun w_ hI=>?_
   exact ⟨hF_.set 7 trivial,hI⟩
  ·obtain rfl:=bB ‹_›
   exact ⟨hF_.set 8 rfl,hI⟩
  obtain ⟨rfl,rfl,rfl,rfl,rfl,rfl,rfl,_,rfl,_⟩:=hF_.all
  have vG:D 7=true:=by assumption
  clear hF_ bU bV bH bR bZ bI bB ct cF
  rw [vG] at hI
  refine aW hI 1 ac rfl (by simpa using hl4) ?_
  have e:cA u=false:=by rw [cA,decide_eq_false hc,Bool.false_and]
  exact ⟨_,_,_,rfl,hI.pick [false,false,false],hE,rfl,cs',hl4,ho4,by rw [e]; rfl,fun h=>by rw [e] at h; cases h⟩
end
end
section
open Go Go.RowKit
def RdSp (S:ae) (cs:List Value) (x:Sp):Prop:=∃ hd,cs=hd++[.int .i64 x.clause,.int .i64 x.body]/\RdT S hd x.goal
theorem RdSp.length {S:ae} {cs:List Value} {x:Sp} (h:RdSp S cs x):cs.length=6:=by
 obtain ⟨hd,rfl,h⟩:=h; simp [h.length]
theorem RdSp.one {S:ae} {cs:List Value} {x:Sp} (h:RdSp S cs x):∀ u∈cs,u.oneCell'=true:=by
 obtain ⟨hd,rfl,h⟩:=h
 intro u hu
 rcases List.mem_append.1 hu with hu|hu
 ·exact h.one u hu
 ·simp only [List.mem_cons,List.not_mem_nil,or_false] at hu
  rcases hu with rfl|rfl <;> rfl
theorem RdSp.mono {S S':ae} {cs:List Value} {x:Sp} (hs:Sle S S') (h:RdSp S cs x):RdSp S' cs x:=by
 obtain ⟨hd,rfl,h⟩:=h; exact ⟨hd,rfl,h.mono hs⟩
theorem RdSl.monoSp {S S':ae} {v:Value} {xs:List Sp} (hs:Sle S S') (h:RdSl S 6 (RdSp S) v xs):RdSl S' 6 (RdSp S') v xs:=h.mono hs fun _ _=>RdSp.mono hs
def RdVS (S:ae) (cs:List Value) (l:List Sp):Prop:=∃ v,cs=[v]/\RdSl S 6 (RdSp S) v l
theorem RdVS.length {S:ae} {cs:List Value} {l:List Sp} (h:RdVS S cs l):cs.length=1:=by
 obtain ⟨v,rfl,h⟩:=h; rfl
theorem RdVS.one {S:ae} {cs:List Value} {l:List Sp} (h:RdVS S cs l):∀ u∈cs,u.oneCell'=true:=by
 obtain ⟨v,rfl,h⟩:=h
 intro u hu
 rw [List.mem_singleton] at hu
 subst hu
 exact h.sl
theorem RdVS.mono {S S':ae} {cs:List Value} {l:List Sp} (hs:Sle S S') (h:RdVS S cs l):RdVS S' cs l:=by
 obtain ⟨v,rfl,h⟩:=h; exact ⟨v,rfl,h.monoSp hs⟩
theorem RdSl.monoVS {S S':ae} {v:Value} {xs:List (List Sp)} (hs:Sle S S') (h:RdSl S 1 (RdVS S) v xs):RdSl S' 1 (RdVS S') v xs:=h.mono hs fun _ _=>RdVS.mono hs
def RdSe (S:ae) (cs:List Value) (s:Se):Prop:=∃ g b c t v,cs=[g,b,c,t,v]/\RdSl S 5 (RdG S) g s.st.goals/\RdSl S 4 (RdO S) b s.st.binds/\RdSl S 7 (RdCh S) c s.st.chs/\RdSl S 6 (RdSp S) t s.steps/\RdSl S 1 (RdVS S) v s.saved
theorem RdSe.length {S:ae} {cs:List Value} {s:Se} (h:RdSe S cs s):cs.length=5:=by
 obtain ⟨g,b,c,t,v,rfl,_⟩:=h; rfl
theorem RdSe.one {S:ae} {cs:List Value} {s:Se} (h:RdSe S cs s):∀ u∈cs,u.oneCell'=true:=by
 obtain ⟨g,b,c,t,v,rfl,h1,h2,h3,h4,h5⟩:=h
 intro u hu
 simp only [List.mem_cons,List.not_mem_nil,or_false] at hu
 rcases hu with rfl|rfl|rfl|rfl|rfl
 ·exact h1.sl
 ·exact h2.sl
 ·exact h3.sl
 ·exact h4.sl
 ·exact h5.sl
theorem RdSe.mono {S S':ae} {cs:List Value} {s:Se} (hs:Sle S S') (h:RdSe S cs s):RdSe S' cs s:=by
 obtain ⟨g,b,c,t,v,rfl,h1,h2,h3,h4,h5⟩:=h
 exact ⟨g,b,c,t,v,rfl,h1.monoG hs,h2.monoO hs,h3.monoCh hs,h4.monoSp hs,h5.monoVS hs⟩
theorem OR {a b c d e f g:Value}:∀ (j:Nat) (v:Value),([a,b,c,d]:List Value)[j]?=some v->(#[a,b,c,d,e,f,g]:Array Value)[0+j]?=some v
 | 0,v,h=>by simpa using h
 | 1,v,h=>by simpa using h
 | 2,v,h=>by simpa using h
 | 3,v,h=>by simpa using h
 | n+4,v,h=>by simp at h
theorem chM (S S':ae) (cs:List Value) (x:Ch) (hs:Sle S S') (h:RdCh S cs x):RdCh S' cs x:=h.mono hs
theorem chL (S:ae) (cs:List Value) (x:Ch) (h:RdCh S cs x):cs.length=7:=h.length
theorem chO (S:ae) (cs:List Value) (x:Ch) (h:RdCh S cs x):∀ u∈cs,u.oneCell'=true:=h.one
theorem spM (S S':ae) (cs:List Value) (x:Sp) (hs:Sle S S') (h:RdSp S cs x):RdSp S' cs x:=h.mono hs
theorem spL (S:ae) (cs:List Value) (x:Sp) (h:RdSp S cs x):cs.length=6:=h.length
theorem spO (S:ae) (cs:List Value) (x:Sp) (h:RdSp S cs x):∀ u∈cs,u.oneCell'=true:=h.one
theorem vsM (S S':ae) (cs:List Value) (x:List Sp) (hs:Sle S S') (h:RdVS S cs x):RdVS S' cs x:=h.mono hs
theorem vsL (S:ae) (cs:List Value) (x:List Sp) (h:RdVS S cs x):cs.length=1:=h.length
theorem vsO (S:ae) (cs:List Value) (x:List Sp) (h:RdVS S cs x):∀ u∈cs,u.oneCell'=true:=h.one
theorem RdSl.single {α:Type} {S:ae} {k b:Nat} {R:List Value->α->Prop} {cs:List Value} {x:α} {E:TypeId} {fz:Nat × Nat} (hb:S b=some (.cells cs.toArray E fz)) (hl:cs.length=k) (h:R cs x):RdSl S k R (.slice (some ⟨b,0,none⟩) 1 1) [x]:=by
 refine ⟨some ⟨b,0,none⟩,1,rfl,Nat.le_refl _,by simp [maxLen],.inr ⟨b,0,cs.toArray,E,fz,rfl,hb,fun i hi=>?_⟩⟩
 have:i=0:=by simp at hi; omega
 subst this
 have e:aH cs.toArray (0+0 * k) k=cs:=by
  rw [aH,Nat.zero_mul,Nat.zero_add,List.drop_zero,<- hl,List.take_length]
 rw [e]
 exact h
def apC {α:Type} (w0:World) (X:List Nat) (A:List Item) (T:TypeId) (k:Nat) (R:ae->List Value->α->Prop) (xs:List α) (y:α) (S:ae) (v0 v1 v2:Value) (w:World):Nat->Prop
 | 0=>Inv w0 X A S w
 | 1=>Inv w0 X (A++[aL v0 T k []]) S w
 | 2=>∃ css,Rows k (R S) css xs/\Inv w0 X (A++[aL v1 T k css]) S w
 | _=>RdSl S k (R S) v2 (xs++[y])/\Inv w0 X A S w
section
variable {α:Type} {w0 w:World} {X:List Nat} {A:List Item} {T:TypeId} {k n:Nat} {R:ae->List Value->α->Prop} {xs:List α} {y:α} {S:ae} {v0 v1 v2:Value}
theorem apC.ex (hR:∀ S S' cs x,Sle S S'->R S cs x->R S' cs x) (h:apC w0 X A T k R xs y S v0 v1 v2 w n) :
  ∃ B,Inv w0 X (A++B) S w/\∀ A' S1 w1,Sle S S1->Inv w0 X (A'++B) S1 w1->apC w0 X A' T k R xs y S1 v0 v1 v2 w1 n:=by
 match n,h with
 | 0,h=>exact ⟨[],by rw [List.append_nil]; exact h,fun A' S1 w1 _ hI=>by rw [List.append_nil] at hI; exact hI⟩
 | 1,h=>exact ⟨_,h,fun A' S1 w1 _ hI=>hI⟩
 | 2,⟨css,h1,h2⟩=>exact ⟨_,h2,fun A' S1 w1 hs hI=>⟨css,h1.monoR fun _ _ h=>hR _ _ _ _ hs h,hI⟩⟩
 | n+3,⟨h1,h2⟩=>exact ⟨[],by rw [List.append_nil]; exact h2,fun A' S1 w1 hs hI=>⟨h1.mono hs fun _ _ h=>hR _ _ _ _ hs h,by rw [List.append_nil] at hI; exact hI⟩⟩
theorem apC.inv (h:apC w0 X A T k R xs y S v0 v1 v2 w n):∃ B,Inv w0 X (A++B) S w:=by
 match n,h with
 | 0,h=>exact ⟨[],by rw [List.append_nil]; exact h⟩
 | 1,h=>exact ⟨_,h⟩
 | 2,⟨css,h1,h2⟩=>exact ⟨_,h2⟩
 | n+3,⟨h1,h2⟩=>exact ⟨[],by rw [List.append_nil]; exact h2⟩
end
section
variable {α:Type} {P:Program} {w0 w:World} {X:List Nat} {A:List Item} {k:Nat} {R:ae->List Value->α->Prop} {xs:List α} {y:α} {S:ae} {v0 v1 v2:Value} {K:Value->World->Prop}
attribute [local irreducible] Run
theorem RQ {T e:TypeId} {by_:Nat} {z:Value} (h:apC w0 X A e k R xs y S v0 v1 v2 w 0) (hT:fQ P T=some (e,k,by_,z))
  (hk:∀ v w',apC w0 X A e k R xs y S v v1 v2 w' 1->K v w'):Run P (bt T 0 []) w K:=by
 have h:Inv w0 X A S w:=h
 exact dE h hT fun v w' hI=>hk v w' hI
theorem RV {T ty e:TypeId} {by_:Nat} {z u:Value} {cs:List Bool} (h:apC w0 X A e k R xs y S v0 v1 v2 w 1) (hT:fQ P T=some (e,k,by_,z)) (hk0:0<k) (hu:RdSl S k (R S) u xs)
  (hlen:∀ cs y,R S cs y->cs.length=k) (h1:∀ cs y,R S cs y->∀ c∈cs,c.oneCell'=true) (hl:xs.length<=4294967296) (hby:by_<=32768)
  (hk:∀ v w',apC w0 X A e k R xs y S v0 v v2 w' 2->K v w'):Run P (bF .append #[T,T] ty cs [v0,u]) w K:=by
 have h:Inv w0 X (A++[aL v0 e k []]) S w:=h
 refine ed (css:=[]) h A.length hT hk0 (by simp) hu hlen h1 (by simpa using hl) hby fun v w' css hR hI=>?_
 refine hk v w' ⟨css,hR,?_⟩
 have e:(A++[aL v0 e k []]).set A.length (aL v e k ([]++css))=A++[aL v e k css]:=by simp
 rw [e] at hI
 exact hI
theorem R6 {T ty e:TypeId} {by_:Nat} {z u:Value} {cs:List Bool} (hR:∀ S S' cs x,Sle S S'->R S cs x->R S' cs x) (h:apC w0 X A e k R xs y S v0 v1 v2 w 2) (hT:fQ P T=some (e,k,by_,z)) (hk0:0<k) (hu:RdSl S k (R S) u [y])
  (hlen:∀ cs y,R S cs y->cs.length=k) (h1:∀ cs y,R S cs y->∀ c∈cs,c.oneCell'=true) (hl:xs.length+1<=4294967296) (hby:by_<=32768)
  (hk:∀ v S' w',Ext w0.heap.size X S S'->apC w0 X A e k R xs y S' v0 v1 v w' 3->K v w'):Run P (bF .append #[T,T] ty cs [v1,u]) w K:=by
 obtain ⟨css,hRs,h⟩:=h
 have hcl:=hRs.hc
 refine ed (css:=css) h A.length hT hk0 (by simp) hu hlen h1 (by simp; omega) hby fun v w' css2 hR2 hI=>?_
 have e:(A++[aL v1 e k css]).set A.length (aL v e k (css++css2))=A++[aL v e k (css++css2)]:=by simp
 rw [e] at hI
 obtain ⟨S',hE,hrd,hI⟩:=Inv.lendExt hI
 exact hk v S' w' hE ⟨RowRd.rows ((hRs.append hR2).monoR fun _ _ h=>hR _ _ _ _ hE.1 h) hrd,hI⟩
end
section
variable {w:World} {K:Value->World->Prop}
attribute [local irreducible] Run
theorem MP {x1:Option Addr} {x2 x3:Nat} {y1:Option Addr} {y2 y3:Nat} {z1:Option Addr} {z2 z3:Nat} (hk:K (.agg #[.slice x1 x2 x3,.slice y1 y2 y3,.slice z1 z2 z3]) w):Run Tryz.prog (bW bK [(1,.slice y1 y2 y3),(2,.slice z1 z2 z3),(0,.slice x1 x2 x3)]) w K:=by
 refine Run.of (v:=.agg #[.slice x1 x2 x3,.slice y1 y2 y3,.slice z1 z2 z3]) (w':=w) ?_ hk
 unfold bW
 rw [Sem.run_bind,run_build w bK _ #[.slice x1 x2 x3,.slice y1 y2 y3,.slice z1 z2 z3] (by kernel_rfl),Result.andThen_ok]
 rfl
theorem JW {x1:Option Addr} {x2 x3:Nat} {y1:Option Addr} {y2 y3:Nat} {z1:Option Addr} {z2 z3:Nat} (hk:K (.agg #[.slice x1 x2 x3,.slice y1 y2 y3,.slice z1 z2 z3]) w):Run Tryz.prog (bW bK [(0,.slice x1 x2 x3),(1,.slice y1 y2 y3),(2,.slice z1 z2 z3)]) w K:=by
 refine Run.of (v:=.agg #[.slice x1 x2 x3,.slice y1 y2 y3,.slice z1 z2 z3]) (w':=w) ?_ hk
 unfold bW
 rw [Sem.run_bind,run_build w bK _ #[.slice x1 x2 x3,.slice y1 y2 y3,.slice z1 z2 z3] (by kernel_rfl),Result.andThen_ok]
 rfl
theorem LC {z1:Option Addr} {z2 z3:Nat} (hk:K (.agg #[.slice none 0 0,.slice none 0 0,.slice z1 z2 z3]) w):Run Tryz.prog (bW bK [(2,.slice z1 z2 z3)]) w K:=by
 refine Run.of (v:=.agg #[.slice none 0 0,.slice none 0 0,.slice z1 z2 z3]) (w':=w) ?_ hk
 unfold bW
 rw [Sem.run_bind,run_build w bK _ #[.slice none 0 0,.slice none 0 0,.slice z1 z2 z3] (by kernel_rfl),Result.andThen_ok]
 rfl
theorem DS {a b c d:Value} {x1:Option Addr} {x2 x3:Nat} {y1:Option Addr} {y2 y3:Nat} {z1:Option Addr} {z2 z3:Nat} (hk:K (.agg #[a,b,c,d,.slice x1 x2 x3,.slice y1 y2 y3,.slice z1 z2 z3]) w):Run Tryz.prog (bW cq [(0,.agg #[a,b,c,d]),(1,.slice x1 x2 x3),(2,.slice y1 y2 y3),(3,.slice z1 z2 z3)]) w K:=by
 refine Run.of (v:=.agg #[a,b,c,d,.slice x1 x2 x3,.slice y1 y2 y3,.slice z1 z2 z3]) (w':=w) ?_ hk
 unfold bW
 rw [Sem.run_bind,run_build w cq _ #[a,b,c,d,.slice x1 x2 x3,.slice y1 y2 y3,.slice z1 z2 z3] (by kernel_rfl),Result.andThen_ok]
 rfl
theorem ED {a b c:Value} {x1:Option Addr} {x2 x3:Nat} {y1:Option Addr} {y2 y3:Nat} (hk:K (.agg #[a,b,c,.slice x1 x2 x3,.slice y1 y2 y3]) w):Run Tryz.prog (bW aN [(0,.agg #[a,b,c]),(1,.slice x1 x2 x3),(2,.slice y1 y2 y3)]) w K:=by
 refine Run.of (v:=.agg #[a,b,c,.slice x1 x2 x3,.slice y1 y2 y3]) (w':=w) ?_ hk
 unfold bW
 rw [Sem.run_bind,run_build w aN _ #[a,b,c,.slice x1 x2 x3,.slice y1 y2 y3] (by kernel_rfl),Result.andThen_ok]
 rfl
theorem JT {a b c:Value} (hk:K (.agg #[a,b,c,.slice none 0 0,.slice none 0 0]) w):Run Tryz.prog (bW aN [(0,.agg #[a,b,c])]) w K:=by
 refine Run.of (v:=.agg #[a,b,c,.slice none 0 0,.slice none 0 0]) (w':=w) ?_ hk
 unfold bW
 rw [Sem.run_bind,run_build w aN _ #[a,b,c,.slice none 0 0,.slice none 0 0] (by kernel_rfl),Result.andThen_ok]
 rfl
theorem Na {a b c d:Value} {i j:Int} (hk:K (.agg #[a,b,c,d,.int .i64 i,.int .i64 j]) w):Run Tryz.prog (bW gZ [(0,.agg #[a,b,c,d]),(1,.int .i64 i),(2,.int .i64 j)]) w K:=by
 refine Run.of (v:=.agg #[a,b,c,d,.int .i64 i,.int .i64 j]) (w':=w) ?_ hk
 unfold bW
 rw [Sem.run_bind,run_build w gZ _ #[a,b,c,d,.int .i64 i,.int .i64 j] (by kernel_rfl),Result.andThen_ok]
 rfl
theorem JP {a b c d:Value} {i:Int} (hk:K (.agg #[a,b,c,d,.int .i64 i,.int .i64 0]) w):Run Tryz.prog (bW gZ [(0,.agg #[a,b,c,d]),(1,.int .i64 i)]) w K:=by
 refine Run.of (v:=.agg #[a,b,c,d,.int .i64 i,.int .i64 0]) (w':=w) ?_ hk
 unfold bW
 rw [Sem.run_bind,run_build w gZ _ #[a,b,c,d,.int .i64 i,.int .i64 0] (by kernel_rfl),Result.andThen_ok]
 rfl
theorem nO {a b c d:Value} {i:Int} (hk:K (.agg #[a,b,c,d,.int .i64 i,.slice none 0 0]) w):Run Tryz.prog (bW ah [(0,.agg #[a,b,c,d]),(1,.int .i64 i)]) w K:=by
 refine Run.of (v:=.agg #[a,b,c,d,.int .i64 i,.slice none 0 0]) (w':=w) ?_ hk
 unfold bW
 rw [Sem.run_bind,run_build w ah _ #[a,b,c,d,.int .i64 i,.slice none 0 0] (by kernel_rfl),Result.andThen_ok]
 rfl
theorem KN  (hk:K (.agg #[.int .i64 0,.int .i64 0,.string ⟨#[]⟩,.slice none 0 0,.int .i64 0,.slice none 0 0]) w):Run Tryz.prog (bW ah []) w K:=by
 refine Run.of (v:=.agg #[.int .i64 0,.int .i64 0,.string ⟨#[]⟩,.slice none 0 0,.int .i64 0,.slice none 0 0]) (w':=w) ?_ hk
 unfold bW
 rw [Sem.run_bind,run_build w ah _ #[.int .i64 0,.int .i64 0,.string ⟨#[]⟩,.slice none 0 0,.int .i64 0,.slice none 0 0] (by kernel_rfl),Result.andThen_ok]
 rfl
theorem LE {a b c d:Value} {i:Int} {x1:Option Addr} {x2 x3:Nat} (hk:K (.agg #[a,b,c,d,.int .i64 i,.slice x1 x2 x3]) w):Run Tryz.prog (bW ah [(0,.agg #[a,b,c,d]),(1,.int .i64 i),(2,.slice x1 x2 x3)]) w K:=by
 refine Run.of (v:=.agg #[a,b,c,d,.int .i64 i,.slice x1 x2 x3]) (w':=w) ?_ hk
 unfold bW
 rw [Sem.run_bind,run_build w ah _ #[a,b,c,d,.int .i64 i,.slice x1 x2 x3] (by kernel_rfl),Result.andThen_ok]
 rfl
end
end
section
open Go Go.RowKit
def nwP (w0:World) (X:List Nat) (A:List Item) (T:TypeId) (z:Array Value) (Q:ae->Array Value->Prop) (da ds:Bool) (x:Value) (S:ae) (w:World):Prop:=
 ∃ b q,(da=true->x=.pointer (some ⟨b,0,none⟩))/\(ds=true->da=true)/\(ds=false->q=z)/\(ds=true->Q S q)/\Inv w0 X (A++cond da [.blk b (.cells q T)] []) S w
section
variable {w0 w:World} {X:List Nat} {A:List Item} {T:TypeId} {z:Array Value} {Q:ae->Array Value->Prop} {da ds:Bool} {x:Value} {S:ae}
theorem nwP.mk (h:Inv w0 X A S w) (x:Value):nwP w0 X A T z Q false false x S w:=⟨0,z,fun h=>(by cases h),fun h=>(by cases h),fun _=>rfl,fun h=>(by cases h),by rw [cond_false,List.append_nil]; exact h⟩
theorem nwP.ex (hQ:∀ S S' q,Sle S S'->Q S q->Q S' q) (h:nwP w0 X A T z Q da ds x S w):∃ B,Inv w0 X (A++B) S w/\∀ S' w',Sle S S'->Inv w0 X (A++B) S' w'->nwP w0 X A T z Q da ds x S' w':=by
 obtain ⟨b,q,h1,h2,h3,h4,h5⟩:=h
 exact ⟨_,h5,fun S' w' hs hI=>⟨b,q,h1,h2,h3,fun h=>hQ _ _ _ hs (h4 h),hI⟩⟩
theorem nwP.inv (h:nwP w0 X A T z Q da ds x S w):∃ B,Inv w0 X (A++B) S w:=by
 obtain ⟨b,q,h1,h2,h3,h4,h5⟩:=h
 exact ⟨_,h5⟩
theorem nwP.fin (h:nwP w0 X A T z Q true true x S w):∃ b q,x=.pointer (some ⟨b,0,none⟩)/\Q S q/\Inv w0 X (A++[.blk b (.cells q T)]) S w:=by
 obtain ⟨b,q,h1,h2,h3,h4,h5⟩:=h
 exact ⟨b,q,h1 rfl,h4 rfl,h5⟩
end
section
variable {P:Program} {w0 w:World} {X:List Nat} {A:List Item} {T:TypeId} {z:Array Value} {Q:ae->Array Value->Prop} {da ds:Bool} {x:Value} {S:ae} {K:Value->World->Prop}
attribute [local irreducible] Run
theorem nwP.alloc {ty:TypeId} {zv:Value} (h:nwP w0 X A T z Q da ds x S w) (hd:da=false) (hz:fC P T=some zv) (hzc:zv.cells=z) (hk:∀ v w',nwP w0 X A T z Q true ds v S w'->K v w'):Run P (sOp (.alloc T) ty) w K:=by
 obtain ⟨b,q,h1,h2,h3,h4,h5⟩:=h
 have hds:ds=false:=Bool.eq_false_iff.2 fun e=>by rw [h2 e] at hd; cases hd
 rw [hd,cond_false,List.append_nil] at h5
 refine aG h5 hz fun b w' hI=>hk _ w' ⟨b,z,fun _=>rfl,fun _=>rfl,fun _=>rfl,fun e=>(by rw [hds] at e; cases e),?_⟩
 rw [cond_true,<- hzc]
 exact hI
theorem nwP.store {ty:TypeId} {n:Nat} {cs:Array Value} (h:nwP w0 X A T z Q da ds x S w) (hd:da=true) (hs:ds=false) (hT:lm P T=some n) (hn:cs.size=n) (hz:z.size=n) (h1:∀ u∈cs.toList,u.oneCell'=true) (hQ:Q S cs)
  (hk:∀ w',nwP w0 X A T z Q da true x S w'->K undef w'):Run P (sOp (.store T (.const x) (.const (.agg cs))) ty) w K:=by
 obtain ⟨b,q,g1,g2,g3,g4,g5⟩:=h
 rw [hd,cond_true,g3 hs] at g5
 rw [g1 hd]
 refine ao (E:=T) g5 A.length (by simp) hT hn hz h1 fun w' hI=>?_
 have e:(A++[Item.blk b (.cells z T)]).set A.length (.blk b (.cells cs T))=A++[.blk b (.cells cs T)]:=by simp
 rw [e] at hI
 exact hk w' ⟨b,cs,g1,fun _=>hd,fun e=>(by cases e),fun _=>hQ,by rw [hd]; exact hI⟩
end
def apP {α:Type} (w0:World) (X:List Nat) (A:Value->List Item) (z:Value) (T:TypeId) (k:Nat) (R:ae->List Value->α->Prop) (xs:List α) (y:α) (S0:ae) (d5 d8:Bool) (v0 v1 v5 v2:Value) (w:World) (n:Nat):Prop:=
 ∃ S1 cv,Ext w0.heap.size X S0 S1/\(d5=true->RdSl S1 k (R S1) v5 [y])/\(d8=false->cv=z)/\(d8=true->RdSl S1 k (R S1) cv (xs++[y]))/\apC w0 X (A cv) T k R xs y S1 v0 v1 v2 w n
section
variable {α:Type} {P:Program} {w0 w:World} {X:List Nat} {A:Value->List Item} {z:Value} {e:TypeId} {k:Nat} {R:ae->List Value->α->Prop} {xs:List α} {y:α} {S0:ae} {d5 d8:Bool} {v0 v1 v5 v2:Value} {n:Nat} {K:Value->World->Prop}
attribute [local irreducible] Run
theorem apP.mk {S:ae} (h:Inv w0 X (A z) S w) (v0 v1 v5 v2:Value):apP w0 X A z e k R xs y S false false v0 v1 v5 v2 w 0:=⟨S,z,Ext.refl _ _ _,fun h=>(by cases h),fun _=>rfl,fun h=>(by cases h),h⟩
theorem apP.inv (h:apP w0 X A z e k R xs y S0 d5 d8 v0 v1 v5 v2 w n):∃ S1 cv B,Ext w0.heap.size X S0 S1/\Inv w0 X (A cv++B) S1 w:=by
 obtain ⟨S1,cv,h1,h2,h3,h4,h5⟩:=h
 obtain ⟨B,hI⟩:=h5.inv
 exact ⟨S1,cv,B,h1,hI⟩
theorem apP.inv0 (h:apP w0 X A z e k R xs y S0 d5 d8 v0 v1 v5 v2 w n) (hd:d8=false):∃ S1 B,Ext w0.heap.size X S0 S1/\Inv w0 X (A z++B) S1 w:=by
 obtain ⟨S1,cv,h1,h2,h3,h4,h5⟩:=h
 obtain ⟨B,hI⟩:=h5.inv
 rw [h3 hd] at hI
 exact ⟨S1,B,h1,hI⟩
theorem apP.fin (h:apP w0 X A z e k R xs y S0 d5 true v0 v1 v5 v2 w 3):∃ S1 cv,Ext w0.heap.size X S0 S1/\RdSl S1 k (R S1) cv (xs++[y])/\Inv w0 X (A cv) S1 w:=by
 obtain ⟨S1,cv,h1,h2,h3,h4,h5⟩:=h
 exact ⟨S1,cv,h1,h4 rfl,h5.2⟩
theorem P4 {T:TypeId} {by_:Nat} {zv:Value} (h:apP w0 X A z e k R xs y S0 d5 d8 v0 v1 v5 v2 w 0) (hT:fQ P T=some (e,k,by_,zv))
  (hk:∀ v w',apP w0 X A z e k R xs y S0 d5 d8 v v1 v5 v2 w' 1->K v w'):Run P (bt T 0 []) w K:=by
 obtain ⟨S1,cv,h1,h2,h3,h4,h5⟩:=h
 exact RQ h5 hT fun v w' h=>hk v w' ⟨S1,cv,h1,h2,h3,h4,h⟩
theorem PG {T ty:TypeId} {by_:Nat} {zv u:Value} {cs:List Bool} (hR:∀ S S' cs x,Sle S S'->R S cs x->R S' cs x) (h:apP w0 X A z e k R xs y S0 d5 d8 v0 v1 v5 v2 w 1) (hT:fQ P T=some (e,k,by_,zv)) (hk0:0<k) (hu:RdSl S0 k (R S0) u xs)
  (hlen:∀ S cs y,R S cs y->cs.length=k) (ho:∀ S cs y,R S cs y->∀ c∈cs,c.oneCell'=true) (hl:xs.length<=4294967296) (hby:by_<=32768)
  (hk:∀ v w',apP w0 X A z e k R xs y S0 d5 d8 v0 v v5 v2 w' 2->K v w'):Run P (bF .append #[T,T] ty cs [v0,u]) w K:=by
 obtain ⟨S1,cv,h1,h2,h3,h4,h5⟩:=h
 exact RV h5 hT hk0 (hu.mono h1.1 fun _ _ h=>hR _ _ _ _ h1.1 h) (hlen S1) (ho S1) hl hby fun v w' h=>hk v w' ⟨S1,cv,h1,h2,h3,h4,h⟩
theorem Qs {T:TypeId} {by_:Nat} {zv:Value} {cs:List Value} (hR:∀ S S' cs x,Sle S S'->R S cs x->R S' cs x) (h:apP w0 X A z e k R xs y S0 d5 d8 v0 v1 v5 v2 w n) (hT:fQ P T=some (e,k,by_,zv)) (hk0:0<k) (hk24:k<=65536)
  {v:Value} (hvc:v.cells=cs.toArray) (hy:R S0 cs y) (hlen:∀ S cs y,R S cs y->cs.length=k)
  (hk:∀ v w',apP w0 X A z e k R xs y S0 true d8 v0 v1 v v2 w' n->K v w'):Run P (bt T 1 [(0,v)]) w K:=by
 obtain ⟨S1,cv,h1,h2,h3,h4,h5⟩:=h
 obtain ⟨B,hI,hback⟩:=h5.ex hR
 have hl:=hlen _ _ _ hy
 refine dQ hI hT (by rw [hvc]; simpa using hl) hk24 hk0 fun b w' hI=>?_
 obtain ⟨S2,hI,hE,hb⟩:=Inv.pub1 hI
 rw [hvc] at hb
 exact hk _ w' ⟨S2,cv,h1.trans hE,fun _=>RdSl.single hb hl (hR _ _ _ _ (h1.trans hE).1 hy),h3,fun e=>(h4 e).mono hE.1 fun _ _ h=>hR _ _ _ _ hE.1 h,hback _ S2 w' hE.1 hI⟩
theorem P1 {T ty:TypeId} {by_:Nat} {zv:Value} {cs:List Bool} (hR:∀ S S' cs x,Sle S S'->R S cs x->R S' cs x) (h:apP w0 X A z e k R xs y S0 d5 d8 v0 v1 v5 v2 w 2) (hd:d5=true) (hT:fQ P T=some (e,k,by_,zv)) (hk0:0<k)
  (hlen:∀ S cs y,R S cs y->cs.length=k) (ho:∀ S cs y,R S cs y->∀ c∈cs,c.oneCell'=true) (hl:xs.length+1<=4294967296) (hby:by_<=32768)
  (hk:∀ v w',apP w0 X A z e k R xs y S0 d5 d8 v0 v1 v5 v w' 3->K v w'):Run P (bF .append #[T,T] ty cs [v1,v5]) w K:=by
 obtain ⟨S1,cv,h1,h2,h3,h4,h5⟩:=h
 exact R6 hR h5 hT hk0 (h2 hd) (hlen S1) (ho S1) hl hby fun v S' w' hE h=>hk v w' ⟨S',cv,h1.trans hE,fun e=>(h2 e).mono hE.1 fun _ _ h=>hR _ _ _ _ hE.1 h,h3,fun e=>(h4 e).mono hE.1 fun _ _ h=>hR _ _ _ _ hE.1 h,h⟩
theorem P2 {U ty E:TypeId} {b d:Nat} {A0:List Item} {C:Value->Array Value} (hA:∀ v,A v=A0++[.blk b (.cells (C v) E)]) (h:apP w0 X A z e k R xs y S0 d5 d8 v0 v1 v5 v2 w 3) (hU:iM P U=true)
  (hC:∀ v v',(C v).setIfInBounds d v'=C v') (hlt:∀ v,d<(C v).size) (hk:∀ w',apP w0 X A z e k R xs y S0 d5 true v0 v1 v5 v2 w' 3->K undef w') :
  Run P (sOp (.store U (.const (.pointer (some ⟨b,d,none⟩))) (.const v2)) ty) w K:=by
 obtain ⟨S1,cv,h1,h2,h3,h4,h5,h6⟩:=h
 rw [hA] at h6
 obtain ⟨a,m,rfl,_⟩:=id h5
 refine dK h6 A0.length (b:=b) (o:=d) (E:=E) (c:=C cv) (n:=1) (v:=.slice a (xs++[y]).length m) rfl (by rw [hU]; simp) (by simp) (by have:=hlt cv; omega) (by simp [Value.cells,Value.oneCell']) fun w' hI=>?_
 have hp:bx (C cv) d (Value.slice a (xs++[y]).length m).cells.toList=C (.slice a (xs++[y]).length m):=by
  refine Eq.trans ?_ (hC cv _)
  apply Array.toList_inj.1
  simp only [bx,Array.toList_setIfInBounds]
  have hl:d<(C cv).toList.length:=by simpa using hlt cv
  rw [List.set_eq_take_append_cons_drop,if_pos hl]
  simp [Value.cells]
 rw [hp] at hI
 have e2:(A0++[Item.blk b (.cells (C cv) E)]).set A0.length (.blk b (.cells (C (.slice a (xs++[y]).length m)) E))=A (.slice a (xs++[y]).length m):=by rw [hA]; simp
 rw [e2] at hI
 exact hk w' ⟨S1,_,h1,h2,fun e=>(by cases e),fun _=>h5,h5,hI⟩
end
end
section
open Go Go.RowKit
theorem Qy {c d:List Value} {n i k:Nat} (h:c.take n=d.take n) (hi:i+k<=n):(c.drop i).take k=(d.drop i).take k:=by
 have e:∀ l:List Value,(l.drop i).take k=((l.take n).drop i).take k:=fun l=>by
  rw [List.drop_take,List.take_take,Nat.min_eq_left (by omega)]
 rw [e c,e d,h]
theorem KnU.grown {S:ae} {c cur:Array Value} {st:aC} {m:Nat} {z:Array Value} (hz:z=#[.int .i64 0,.int .i64 0,.string ⟨#[]⟩,.slice none 0 0]) (h:KnU S cur st) (hs:(st.length+m) * 4<=c.size)
  (ht:c.toList.take ((st.length+m) * 4)=cur.toList.take (st.length * 4)++(Builtin.zeroCells z m).toList):KnU S c (st++List.replicate m none):=by
 have hZ:=KnU.zero z hz S m
 have hz4:z.size=4:=by rw [hz]; rfl
 have hZe:Builtin.zeroCells z m=(Array.range (m * 4)).map (z[· % z.size]!):=by rw [Builtin.zeroCells,hz4]
 have h1:=h.1
 have hlen:(cur.toList.take (st.length * 4)).length=st.length * 4:=by rw [List.length_take]; have:cur.toList.length=cur.size:=rfl; omega
 refine KnU.of (by rw [List.length_append,List.length_replicate]; exact hs) fun i hi=>?_
 rw [List.length_append,List.length_replicate] at hi
 by_cases hl:i<st.length
 ·rw [List.getElem_append_left hl]
  have e:aH c (i * 4) 4=aH cur (i * 4) 4:=by
   rw [aH,aH]
   refine Qy (n:=st.length * 4) ?_ (by omega)
   have:=congrArg (List.take (st.length * 4)) ht
   rw [List.take_take,Nat.min_eq_left (by omega),List.take_append_of_le_length (by omega),List.take_take,Nat.min_self] at this
   exact this
  rw [e]
  exact h.rdO i hl
 ·rw [List.getElem_append_right (by omega),List.getElem_replicate]
  have hj:i - st.length<(List.replicate m (none:Option T)).length:=by rw [List.length_replicate]; omega
  have hr:=hZ.rdO (i - st.length) hj
  rw [List.getElem_replicate] at hr
  have e:aH c (i * 4) 4=aH ((Array.range (m * 4)).map (z[· % z.size]!)) ((i - st.length) * 4) 4:=by
   rw [aH,aH,<- hZe]
   have e1:(c.toList.drop (i * 4)).take 4=((c.toList.take ((st.length+m) * 4)).drop (i * 4)).take 4:=by
    rw [List.drop_take,List.take_take,Nat.min_eq_left (by omega)]
   rw [e1,ht,List.drop_append,hlen,List.drop_eq_nil_of_le (by rw [hlen]; omega),List.nil_append]
   rw [show i * 4 - st.length * 4=(i - st.length) * 4 by omega]
  rw [e]
  exact hr
theorem M3 {z:Array Value} (hz:z=#[.int .i64 0,.int .i64 0,.string ⟨#[]⟩,.slice none 0 0]) (m:Nat):∀ u∈(Builtin.zeroCells z m).toList,u.oneCell'=true:=by
 subst hz
 intro u hu
 simp only [Builtin.zeroCells,Array.toList_map,List.mem_map] at hu
 obtain ⟨i,_,rfl⟩:=hu
 have:i % 4<4:=Nat.mod_lt _ (by omega)
 have h4:(#[.int .i64 0,.int .i64 0,.string ⟨#[]⟩,.slice none 0 0]:Array Value).size=4:=rfl
 rw [h4]
 match i % 4,this with
 | 0,_=>rfl
 | 1,_=>rfl
 | 2,_=>rfl
 | 3,_=>rfl
section
variable {P:Program} {w w0:World} {X:List Nat} {A:List Item} {S S1:ae} {K:Value->World->Prop}
attribute [local irreducible] Run CondV aB aS
theorem K0 {T U ty e:TypeId} {by_ m:Nat} {z v:Value} {cs:List Bool} {css:List (List Value)} {st:aC} (h:Inv w0 X (A++[aL v e 4 css]) S w) (hR:Rows 4 (RdO S1) css st) (h0:0<st.length)
  (hT:fQ P T=some (e,4,by_,z)) (hzc:z.cells=#[.int .i64 0,.int .i64 0,.string ⟨#[]⟩,.slice none 0 0]) (hU:P.underlying U=some (.int .i64)) (hfit:st.length+m<=4294967296) (hby:by_<=32768)
  (hk:∀ (g cap:Nat) (cur:Array Value) w',st.length+m<=cap->cap<=maxLen->KnU S1 cur (st++List.replicate m none)->Inv w0 X (A++[.blk g (.cells cur e)]) S w'->K (kvU g (st.length+m) cap) w') :
  Run P (bF .append #[T,U] ty cs [v,.int .i64 m]) w K:=by
 have hcy:=hR.hc
 obtain ⟨hl,ho⟩:=Inv.openRow h
 rcases ho with ⟨rfl,h1⟩|⟨g,cap,cur,rfl,hnc,hcm,hcs,ht,hI⟩
 ·omega
 rw [hcy] at hnc ht ⊢
 have hkn:KnU S1 cur st:=hR.knu (by rw [hcs]; exact Nat.mul_le_mul_right 4 hnc) (by rw [hcy]; exact ht)
 obtain ⟨hu,inf,hi',hz,hs,hb,hzs⟩:=iX hT
 have hgw:w.heap[g]?=some (.cells cur e):=hI.its (.blk g (.cells cur e)) (by simp)
 have hw:IntKind.i64.wrap (m:Int)=m:=IntWalk.i64_in _ (by omega)
 have hneg:¬ ((m:Int)<0):=by omega
 have h48i:¬ (281474976710656<(m:Int) * (by_:Int)):=by
  have:m * by_<=(st.length+m) * by_:=Nat.mul_le_mul_right _ (by omega)
  have hbytes:(st.length+m) * by_<=140737488355328:=Nat.le_trans (Nat.mul_le_mul hfit hby) (by decide)
  rw [<- Int.natCast_mul]
  omega
 have hzl:(Builtin.zeroCells z.cells m).size=m * 4:=by rw [size_zeroCells,hzs]
 have hzt:(Builtin.zeroCells z.cells m).toList.length=m * 4:=hzl
 have hct:cur.toList.length=cur.size:=rfl
 by_cases hfits:st.length+m<=cap
 ·have hst:=run_storeCells_at P g (st.length * 4) e (Builtin.zeroCells z.cells m).toList 0 cur w hgw (by omega) (M3 hzc m)
  by_cases hm:m=0
  ·subst hm
   have hw0:IntKind.i64.wrap 0=0:=IntWalk.i64_in _ (by omega)
   refine Run.of (v:=kvU g (st.length+0) cap) (w':=w) ?_ (hk g cap cur w hfits hcm (by simpa using hkn) hI)
   simp [bF,builtin,Builtin.append_,run_underlying hu,run_underlying hU,sizeOf,typeInfo,hi',hb,asInt,asIntOf,hw0,hnc,storeCells]
  ·have hns:¬ (m * 4=0):=by omega
   have hkg:KnU S1 (bx cur (st.length * 4) (Builtin.zeroCells z.cells m).toList) (st++List.replicate m none):=by
    refine hkn.grown hzc ?_ ?_
    ·rw [gN _ _ _ (by omega),hcs]; exact Nat.mul_le_mul_right 4 hfits
    ·show ((cur.toList.take (st.length * 4)++(Builtin.zeroCells z.cells m).toList++cur.toList.drop (st.length * 4+(Builtin.zeroCells z.cells m).toList.length))).take _=_
     rw [List.take_left' (by rw [List.length_append,List.length_take,hzt]; omega)]
   refine Run.of (v:=kvU g (st.length+m) cap) (w':=w.setRow g (bx cur (st.length * 4) (Builtin.zeroCells z.cells m).toList)) ?_ (hk g cap _ _ hfits hcm hkg ?_)
   ·simp [bF,builtin,Builtin.append_,run_underlying hu,run_underlying hU,sizeOf,typeInfo,zeroValue,hi',hz,hs,hb,asInt,asIntOf,hw,hneg,h48i,hns,hfits,j7,hst,bx]
   ·have e2:(A++[Item.blk g (.cells cur e)]).set A.length (.blk g (.cells (bx cur (st.length * 4) (Builtin.zeroCells z.cells m).toList) e))=A++[.blk g (.cells (bx cur (st.length * 4) (Builtin.zeroCells z.cells m).toList) e)]:=by simp
    have h3:=hI.setBlk (i:=A.length) (b:=g) (o:=.cells cur e) (by simp) (.cells (bx cur (st.length * 4) (Builtin.zeroCells z.cells m).toList) e) (Ei hgw)
    rw [e2] at h3
    exact h3
 ·have hg:cap<st.length+m:=by omega
  obtain ⟨olds,hoe⟩:∃ olds,olds=cur.toList.take (st.length * 4):=⟨_,rfl⟩
  have hcz:cur.size=cap * 4:=hcs
  have hlo:olds.length=st.length * inf.size:=by rw [hoe,hs,List.length_take]; omega
  have holds:∀ j v,olds[j]?=some v->w.cell? ((⟨g,0,none⟩:Addr).add j)=some v:=by
   intro j v hj
   rw [j7,Nat.zero_add,cell_of_row w g j cur e (0,0) hgw]
   rw [hoe,List.getElem?_take] at hj
   split at hj
   ·simpa using hj
   ·cases hj
  have hbytes:(st.length+m) * by_<=140737488355328:=Nat.le_trans (Nat.mul_le_mul hfit hby) (by decide)
  have hgf:=growslice_fits hg hbytes
  have hns:¬ (m * 4=0):=by omega
  have h63':¬ (9223372036854775807<(st.length:Int)+(m:Int)):=by omega
  have h48':¬ (281474976710656<Builtin.nextslicecap (st.length+m) cap * by_):=by omega
  have hfo:=run_firstCells_some (P:=P) w.drew inf.size st.length ⟨g,0,none⟩ st.length cap olds hlo (by simpa using holds)
  rw [hs] at hfo
  have hge:=grownCap_ge w (st.length+m) cap e
  have hle:=grownCap_le_maxLen w (st.length+m) cap e (by simp only [maxLen]; omega)
  refine Run.of (v:=kvU w.heap.size (st.length+m) (grownCap w (st.length+m) cap e))
   (w':=w.drew.alloc (.cells (olds.toArray++Builtin.zeroCells z.cells m++Builtin.zeroCells z.cells (grownCap w (st.length+m) cap e - (st.length+m))) e)) ?_ (hk _ _ (olds.toArray++Builtin.zeroCells z.cells m++Builtin.zeroCells z.cells (grownCap w (st.length+m) cap e - (st.length+m))) _ hge hle ?_ ?_)
  ·simp [bF,builtin,Builtin.append_,run_underlying hu,run_underlying hU,sizeOf,typeInfo,zeroValue,hi',hz,hs,hb,asInt,asIntOf,hw,hfits,hneg,hns,h63',h48',h48i,Question.forced,hfo,newRow,grownCap]
  ·refine hkn.grown hzc ?_ ?_
   ·simp only [Array.size_append,List.size_toArray,hzl,hlo,hs]; omega
   ·rw [Array.toList_append,Array.toList_append,<- hoe]
    rw [List.take_left' (by rw [List.length_append,hzt,hlo,hs]; omega)]
  ·have h2:=h.draw.alloc (.cells (olds.toArray++Builtin.zeroCells z.cells m++Builtin.zeroCells z.cells (grownCap w (st.length+m) cap e - (st.length+m))) e)
   exact h2.sub (by rw [List.append_assoc]; exact (List.sublist_append_right _ _).append_left _)
end
end
end Go.Proofs.YtfcbhfjomgopbaaGreat
