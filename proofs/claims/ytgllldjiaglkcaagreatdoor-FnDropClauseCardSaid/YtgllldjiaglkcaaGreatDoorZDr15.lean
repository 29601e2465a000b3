/- spec: the search stays small (tables, goals, choices, steps), in plain Lean. -/
import Derived.Test.YtgllldjiaglkcaaGreatDoorZDr14
import Derived.Test.YtgllldjiaglkcaaGreatDoorZDr13
import Derived.Test.YtgllldjiaglkcaaGreatDoorZDr4
import Derived.Test.YtgllldjiaglkcaaGreatDoorZDr8
namespace Go.Proofs.YtgllldjiaglkcaaGreatDoor
section
open Go Go.RowKit
structure IE (cl:C):Prop where
 cf:th cl
 hd:okM cl.head
 bd:∀ t∈cl.body,okM t
 fr:oC cl<=26
 ln:cl.body.length<=6
 w:wC cl<=1048576
 vs:∀ x∈kK (cl.head::cl.body) [],0<=x/\x<1000000
mutual
theorem MJ {M N:Nat}:∀ t:T,okU M t->(∀ m∈vT t,m<N)->okU N t
 | .mk k n s ks,h,hv=>by
  rw [okU] at h ⊢
  rw [vT] at hv
  refine ⟨h.1,fun e=>?_,?_,h.2.2.2⟩
  ·obtain ⟨q1,q2,q3⟩:=h.2.1 e
   have:=hv n.toNat (by rw [if_pos e]; exact List.mem_singleton.2 rfl)
   exact ⟨q1,by omega,q3⟩
  ·by_cases e:k=1
   ·rw [(h.2.1 e).2.2.2,bH]; trivial
   ·rw [if_neg e] at hv
    exact uZ ks h.2.2.1 hv
theorem uZ {M N:Nat}:∀ ts:List T,bH M ts->(∀ m∈vTL ts,m<N)->bH N ts
 | [],_,_=>by rw [bH]; trivial
 | t::ts,h,hv=>by
  rw [bH] at h ⊢
  rw [vTL] at hv
  exact ⟨MJ t h.1 fun m hm=>hv m (List.mem_append_left _ hm),uZ ts h.2 fun m hm=>hv m (List.mem_append_right _ hm)⟩
end
theorem GH {cl:C} (h:bh cl=true):IE cl:=by
 obtain ⟨h1,h2,_⟩:=eq h
 have hU:bH 26 (cl.head::cl.body):=by rw [bH]; exact ⟨h1,ma h2⟩
 have hmem:=qN (cl.head::cl.body) [] hU
 have hb:=h
 rw [bh] at hb
 simp only [Bool.and_eq_true,decide_eq_true_eq,List.all_eq_true] at hb
 obtain ⟨hl,hgs,hvh,_⟩:=hb
 have hlt:∀ m∈vTL (cl.head::cl.body),m<26:=Ia _ hU
 have hfr:∀ m∈vTL (cl.head::cl.body),m<(oC cl).toNat:=by
  intro m hm
  have:=(BD (kK (cl.head::cl.body) []) 0).2 m ((hmem m).2 (.inr ⟨m,hm,rfl⟩))
  rw [oC]
  omega
 have hN:=uZ _ hU hfr
 rw [bH] at hN
 have hwh:=pA hvh
 have hwb:∀ t∈cl.body,wT t<=840:=fun t ht=>pA (kf (hgs t ht))
 have hvs:∀ x∈kK (cl.head::cl.body) [],0<=x/\x<26:=by
  intro x hx
  rcases (hmem x).1 hx with hx|⟨m,hm,rfl⟩
  ·cases hx
  ·have:=hlt m hm
   omega
 have hwl:∀ ts:List T,(∀ t∈ts,wT t<=840)->wL ts<=841 * ts.length:=by
  intro ts
  induction ts with
  | nil=>intro _; simp [wL]
  | cons t ts ih=>
   intro hh
   have a:=hh t (List.mem_cons_self ..)
   have b:=ih fun u hu=>hh u (List.mem_cons_of_mem _ hu)
   simp only [wL,List.length_cons]
   omega
 have:=hwl _ hwb
 refine ⟨⟨⟨hN.1,by omega⟩,fun t ht=>⟨oT hN.2 t ht,by have:=hwb t ht; omega⟩⟩,vi hvh,fun t ht=>vi (kf (hgs t ht)),?_,hl,?_,fun x hx=>⟨(hvs x hx).1,by have:=(hvs x hx).2; omega⟩⟩
 ·exact CO 26 _ 0 (by omega) fun x hx=>(hvs x hx).2
 ·unfold wC; omega
structure okRk (k:Nat) (c:Ch):Prop where
 nb:c.binds.length<=26+26 * k
 nr:c.rest.length<=1+6 * k
 tab:tabM c.binds
 goal:okM c.goal
 rest:∀ g∈c.rest,okM g.1
 pos:0<c.binds.length
def okLp (N:Nat) (l:List Sp):Prop:=∀ x∈l,(okU N x.goal/\wT x.goal<=1048576)/\0<=x.body/\x.body<=6/\-1<=x.clause/\x.clause<=1000000
structure okXk (k:Nat) (s:Se):Prop where
 nb:s.st.binds.length<=26+26 * k
 ng:s.st.goals.length<=1+6 * k
 nc:s.st.chs.length<=k
 ns:s.steps.length<=k
 tab:tabM s.st.binds
 goals:∀ g∈s.st.goals,okM g.1
 chs:∀ c∈s.st.chs,okRk k c
 steps:okLp s.st.binds.length s.steps
 saved:∀ i (h:i<s.st.chs.length) (h':i<s.saved.length),okLp s.st.chs[i].binds.length s.saved[i]
 nv:∀ l∈s.saved,l.length<=k
 pos:0<s.st.binds.length
theorem okRk.up {k:Nat} {c:Ch} (h:okRk k c):okRk (k+1) c:=⟨by have:=h.nb; omega,by have:=h.nr; omega,h.tab,h.goal,h.rest,h.pos⟩
theorem okLp.mono {N M:Nat} {l:List Sp} (h:okLp N l) (hm:N<=M):okLp M l:=fun x hx=>⟨⟨fm hm _ (h x hx).1.1,(h x hx).1.2⟩,(h x hx).2⟩
theorem okXk.up {k:Nat} {s:Se} (h:okXk k s):okXk (k+1) s:=
 ⟨by have:=h.nb; omega,by have:=h.ng; omega,by have:=h.nc; omega,by have:=h.ns; omega,h.tab,h.goals,fun c hc=>(h.chs c hc).up,h.steps,h.saved,fun l hl=>by have:=h.nv l hl; omega,h.pos⟩
theorem FirstL.of {p:List C} {chs:List Ch} {c:Ch} {l:List Int} {o:Option (St6 × Int × List Int)} (h:FirstL p chs c l o):∀ s i r,o=some (s,i,r)->
  ∃ (n:Nat) (cl:C) (st:ag),i=n/\p[n]?=some cl/\s=mG chs c cl [] st/\Uni (MR c.binds cl) (.one c.goal (bv c.binds.length cl.head)) true st:=by
 induction h with
 | nil=>intro s i r h; cases h
 | miss _ _ ih=>exact ih
 | hit ht=>
  intro s i r h
  simp only [Option.some.injEq,Prod.mk.injEq] at h
  obtain ⟨rfl,rfl,rfl⟩:=h
  cases ht with
  | hit hi hu=>exact ⟨_,_,_,rfl,hi,rfl,hu⟩
  | miss _ _ h=>cases h
theorem TakeR.okXk {p:List C} (hp:∀ cl∈p,IE cl) (hpl:p.length<=1000000) {k:Nat} {s s':Se} {c:Ch} (h:TakeR p s c (some s')) (hc:nC c) (hr:okRk k c) (hn:s.saved.length=s.st.chs.length)
  (hcs:∀ d∈s.st.chs,okRk k d) (hcn:s.st.chs.length<=k) (hst:okLp c.binds.length s.steps) (hsn:s.steps.length<=k)
  (hsv:∀ i (h:i<s.st.chs.length) (h':i<s.saved.length),okLp s.st.chs[i].binds.length s.saved[i]) (hsvn:∀ l∈s.saved,l.length<=k):okXk (k+1) s':=by
 cases h with
 | @yes u i l hF=>
  obtain ⟨n,cl,st,rfl,hi,rfl,hu⟩:=hF.of _ _ _ rfl
  have hm:=hp cl (List.mem_of_getElem? hi)
  obtain ⟨hg,_⟩:=hu.good (uj hc cl) (C2 hc hm.cf)
  have htab:tabM st:=hu.okM (hr.tab.grow _) ⟨hr.goal,lJ _ _ hm.hd⟩
  have hlen:=hg.len
  have hfr:=hm.fr
  have hln:=hm.ln
  have hnb:=hr.nb
  have hnr:=hr.nr
  have hpos:=hr.pos
  have hrn:okRk (k+1) ⟨c.goal,c.rest,l,c.binds⟩:=okRk.up ⟨hnb,hnr,hr.tab,hr.goal,hr.rest,hpos⟩
  refine ⟨?_,?_,?_,?_,htab,?_,?_,?_,?_,?_,?_⟩
  ·simp only [j7,mG]; omega
  ·simp only [j7,mG,List.length_append,List.length_map]; omega
  ·simp only [j7,List.length_append]; split <;> simp <;> omega
  ·simp only [j7,List.length_append,List.length_singleton]; omega
  ·intro g hg
   simp only [j7,mG] at hg
   rcases List.mem_append.1 hg with hg|hg
   ·obtain ⟨t,ht,rfl⟩:=List.mem_map.1 hg
    exact lJ _ _ (hm.bd t ht)
   ·exact hr.rest g hg
  ·intro d hd
   simp only [j7] at hd
   rcases List.mem_append.1 hd with hd|hd
   ·exact (hcs d hd).up
   ·split at hd
    ·cases hd
    ·rw [List.mem_singleton] at hd
     subst hd
     exact hrn
  ·intro x hx
   simp only [j7,mG] at hx ⊢
   rcases List.mem_append.1 hx with hx|hx
   ·exact hst.mono (by omega) x hx
   ·rw [List.mem_singleton] at hx
    subst hx
    simp only [Int.toNat_natCast,hi,Option.elim_some]
    exact ⟨⟨fm (by omega) _ hc.goal.1,hc.goal.2⟩,by omega,by omega,by omega,by have:=(List.getElem?_eq_some_iff.1 hi).1; omega⟩
  ·intro j h1 h2
   simp only [j7] at h1 h2 ⊢
   by_cases hl:l=[]
   ·subst hl
    simp only [if_pos,List.append_nil] at h1 h2 ⊢
    exact hsv j h1 h2
   ·simp only [if_neg hl,List.length_append,List.length_singleton] at h1 h2 ⊢
    by_cases hk:j<s.st.chs.length
    ·rw [List.getElem_append_left hk,List.getElem_append_left (by omega)]
     exact hsv j hk (by omega)
    ·have hk1:j=s.st.chs.length:=by omega
     subst hk1
     rw [List.getElem_append_right (Nat.le_refl _),List.getElem_append_right (by omega)]
     simp only [hn,Nat.sub_self,List.getElem_cons_zero]
     exact hst
  ·intro q hq
   simp only [j7] at hq
   rcases List.mem_append.1 hq with hq|hq
   ·have:=hsvn q hq; omega
   ·split at hq
    ·cases hq
    ·rw [List.mem_singleton] at hq
     subst hq
     omega
  ·simp only [j7,mG]; omega
def okBL (cs:List Ch) (ss:List (List Sp)):Prop:=∀ i (h:i<cs.length) (h':i<ss.length),okLp cs[i].binds.length ss[i]
theorem okBL.last {cs:List Ch} {ss:List (List Sp)} {c:Ch} {t:List Sp} (h:okBL (cs++[c]) (ss++[t])) (hl:cs.length=ss.length):okBL cs ss/\okLp c.binds.length t:=by
 constructor
 ·intro i h1 h2
  have:=h i (by simp; omega) (by simp; omega)
  rw [List.getElem_append_left h1,List.getElem_append_left h2] at this
  exact this
 ·have:=h cs.length (by simp) (by simp [hl])
  rw [List.getElem_append_right (Nat.le_refl _),List.getElem_append_right (by omega)] at this
  simp only [hl,Nat.sub_self,List.getElem_cons_zero] at this
  exact this
theorem BackR.okXk {p:List C} (hp:∀ cl∈p,IE cl) (hpl:p.length<=1000000) {k:Nat} {cs:List Ch} {ss:List (List Sp)} {o:Option Se} (h:BackR p cs ss o):cs.length=ss.length->(∀ c∈cs,nC c/\okRk k c)->cs.length<=k->okBL cs ss->(∀ l∈ss,l.length<=k)->∀ s,o=some s->Go.Proofs.YtgllldjiaglkcaaGreatDoor.okXk (k+1) s:=by
 induction h with
 | nil=>intro _ _ _ _ _ s h; cases h
 | hit ht=>
  intro hl hh hk hb hv s h
  simp only [List.length_append,List.length_singleton,Nat.add_right_cancel_iff] at hl hk
  rw [Option.some.injEq] at h
  subst h
  obtain ⟨h1,h2⟩:=hb.last hl
  exact ht.okXk hp hpl (hh _ (by simp)).1 (hh _ (by simp)).2 hl.symm (fun d hd=>(hh d (List.mem_append_left _ hd)).2) (by simp only; omega) h2 (hv _ (by simp)) h1 fun l hl=>hv l (List.mem_append_left _ hl)
 | miss _ _ ih=>
  intro hl hh hk hb hv
  simp only [List.length_append,List.length_singleton,Nat.add_right_cancel_iff] at hl hk
  exact ih hl (fun d hd=>hh d (List.mem_append_left _ hd)) (by omega) (hb.last hl).1 fun l hl=>hv l (List.mem_append_left _ hl)
theorem OneR.okXk {p:List C} (hp:∀ cl∈p,IE cl) (hpl:p.length<=1000000) {k:Nat} {s s':Se} {e:Int} (h:OneR p s s' e) (hs:oG p.length s) (hx:okXk k s):okXk (k+1) s'/\(e=-2->s'=s):=by
 have hgo:=hs.st.goals
 have hgm:=hx.goals
 cases h with
 | big=>exact ⟨hx.up,fun _=>rfl⟩
 | stuck=>exact ⟨hx.up,fun _=>rfl⟩
 | fail=>exact ⟨hx.up,fun _=>rfl⟩
 | err=>exact ⟨hx.up,fun _=>rfl⟩
 | @took g rest u _ hg hu hsm _ _ ht=>
  rw [hg] at hgo hgm
  have hou:=gu hs.st.good hu (hgo _ (List.mem_cons_self ..)).1
  have hw:=er hsm hou
  have hum:okM u:=Res.okM hx.tab hu (hgm _ (List.mem_cons_self ..))
  have hng:=hx.ng
  rw [hg,List.length_cons] at hng
  refine ⟨ht.okXk hp hpl ⟨hs.st.good,⟨hou,by simp only; omega⟩,fun x hx=>hgo x (List.mem_cons_of_mem _ hx)⟩ ⟨hx.nb,by simp only; omega,hx.tab,hum,fun x hx=>hgm x (List.mem_cons_of_mem _ hx),hx.pos⟩ hs.len hx.chs hx.nc hx.steps hx.ns hx.saved hx.nv,fun e=>(by cases e)⟩
 | @solved g rest u st hg hu hsm _ hb hB=>
  rw [hg] at hgo hgm
  have hou:=gu hs.st.good hu (hgo _ (List.mem_cons_self ..)).1
  have hw:=er hsm hou
  have hum:okM u:=Res.okM hx.tab hu (hgm _ (List.mem_cons_self ..))
  have hgd:=hB.good hs.st.good hb ⟨hou,by omega⟩
  have hl:=hgd.len
  have hng:=hx.ng
  rw [hg,List.length_cons] at hng
  have hnb:=hx.nb
  have hns:=hx.ns
  have hpos:=hx.pos
  refine ⟨⟨by simp only; omega,by simp only; omega,by have:=hx.nc; simp only; omega,by simp only [List.length_append,List.length_singleton]; omega,hB.okM hx.tab hum,fun x h=>hgm x (List.mem_cons_of_mem _ h),fun c hc=>(hx.chs c hc).up,?_,hx.saved,fun l hl=>by have:=hx.nv l hl; omega,by simp only; omega⟩,fun e=>(by cases e)⟩
  intro x h
  simp only at h ⊢
  rw [hl]
  rcases List.mem_append.1 h with h|h
  ·exact hx.steps x h
  ·rw [List.mem_singleton] at h
   subst h
   exact ⟨⟨hou,by simp only; omega⟩,by simp,by simp,by simp,by simp⟩
theorem Srch.okXk {p:List C} (hp:∀ cl∈p,IE cl) (hpl:p.length<=1000000) {n:Nat} {s:Se} {o:Option Se} (h:Srch p n s o):∀ k,oG p.length s->Go.Proofs.YtgllldjiaglkcaaGreatDoor.okXk k s->∀ t,o=some t->Go.Proofs.YtgllldjiaglkcaaGreatDoor.okXk (k+n) t:=by
 induction h with
 | @done n s hg=>
  intro k h1 h2 t h
  rw [Option.some.injEq] at h
  subst h
  induction n with
  | zero=>exact h2
  | succ n ih=>exact ih.up
 | out=>intro _ _ _ t h; cases h
 | halt=>intro _ _ _ t h; cases h
 | stop=>intro _ _ _ t h; cases h
 | @step n _ _ _ hg h1 _ ih=>
  intro k hs hx t h
  have:=ih (k+1) (h1.ok (fun cl hc=>(hp cl hc).cf) hs) (h1.okXk hp hpl hs hx).1 t h
  rwa [show k+(n+1)=k+1+n by omega]
 | @back n _ s' _ _ hg h1 h2 _ ih=>
  intro k hs hx t h
  have hs':=h1.ok (fun cl hc=>(hp cl hc).cf) hs
  have e:=(h1.okXk hp hpl hs hx).2 rfl
  subst e
  have:=ih (k+1) (h2.ok (fun cl hc=>(hp cl hc).cf) hs.len.symm hs.st.chs hs.left _ rfl) (h2.okXk hp hpl hs.len.symm (fun c hc=>⟨hs.st.chs c hc,hx.chs c hc⟩) hx.nc hx.saved hx.nv _ rfl) t h
  rwa [show k+(n+1)=k+1+n by omega]
end
section
open Go Go.RowKit
structure GI where
 t:T
 cut:Int
 up:Int
structure CI where
 goal:T
 node:Int
 rest:List GI
 left:List Int
 binds:ag
 taken:Nat
structure NI where
 goal:T
 up:Int
 clause:Int
structure SI where
 st:ag
 goals:List GI
 chs:List CI
 nodes:List NI
def g26 (st:ag):ag:=st++List.replicate 26 none
def be (st:ag) (n:Nat):ag:=st++List.replicate (n - st.length) none
theorem iL (st:ag):(g26 st).length=st.length+26:=by simp [g26]
theorem bG {st:ag} {n:Nat} (h:st.length<=n):(be st n).length=n:=by simp [be]; omega
theorem rA {st:ag} {n:Nat} (h:st.length<=n):g26 (be st n)=be st (n+26):=by
 unfold g26 be
 rw [List.append_assoc,List.replicate_append_replicate]
 congr 2
 omega
theorem fJ (st:ag):be st st.length=st:=by simp [be]
theorem HX (st:ag):g26 st=be st (st.length+26):=by
 rw [<- rA (Nat.le_refl _),fJ]
structure HI where
 i:Nat
 cl:C
 by_:Nat
 l:List Int
 st:ag
inductive TryI (p:List C) (g:T):List Int->ag->Option HI->Nat->Prop
 | nil {st:ag}:TryI p g [] st none st.length
 | hit {i:Nat} {l:List Int} {cl:C} {st st':ag}:p[i]?=some cl->Uni (g26 st) (.one g (bv st.length cl.head)) true st'->TryI p g ((i:Int)::l) st (some ⟨i,cl,st.length,l,st'⟩) (st.length+26)
 | miss {i:Nat} {l:List Int} {cl:C} {st st':ag} {o:Option HI} {n:Nat}:p[i]?=some cl->Uni (g26 st) (.one g (bv st.length cl.head)) false st'->TryI p g l (g26 st) o n->TryI p g ((i:Int)::l) st o n
def ji (cl:C) (by_:Nat) (cut up:Int) (rest:List GI):List GI:=cl.body.map (fun t=>⟨bv by_ t,cut,up⟩)++rest
def Di (ns:List NI) (at_:Nat) (i:Int):List NI:=ns.modify at_ fun x=>⟨x.goal,x.up,i⟩
def fO (chs:List CI) (nodes:List NI) (g:T) (at_:Int) (rest:List GI) (b:ag) (r:HI):SI:=
 ⟨r.st,ji r.cl r.by_ chs.length at_ rest,chs++(if r.l=[] then [] else [⟨g,at_,rest,r.l,b,nodes.length⟩]),Di nodes at_.toNat r.i⟩
inductive BackI (p:List C):List CI->Nat->List NI->Option SI->Prop
 | nil {n:Nat} {ns:List NI}:BackI p [] n ns none
 | hit {cs:List CI} {c:CI} {n m:Nat} {ns:List NI} {r:HI}:TryI p c.goal c.left (be c.binds n) (some r) m->BackI p (cs++[c]) n ns (some (fO cs (ns.take c.taken) c.goal c.node c.rest (be c.binds n) r))
 | miss {cs:List CI} {c:CI} {n m:Nat} {ns:List NI} {o:Option SI}:TryI p c.goal c.left (be c.binds n) none m->BackI p cs m (ns.take c.taken) o->BackI p (cs++[c]) n ns o
def Im (c:Int):Int:=if c=2 then 4 else if c=3 then 5 else if c=4 then 6 else 7
inductive StepI (p:List C) (nc:Bool) (s:SI):Option SI->Int->Prop
 | large {g:GI} {gs:List GI} {t:T}:s.goals=g::gs->Res s.st (.one g.t t)->bw t=false->StepI p nc s none 3
 | noCut {g:GI} {gs:List GI} {t:T}:s.goals=g::gs->Res s.st (.one g.t t)->bw t=true->dI t=true->nc=true->StepI p nc s none 0
 | cut {g:GI} {gs:List GI} {t:T}:s.goals=g::gs->Res s.st (.one g.t t)->bw t=true->dI t=true->nc=false->
   StepI p nc s (some ⟨s.st,gs,s.chs.take g.cut.toNat,s.nodes++[⟨t,g.up,-1⟩]⟩) (-1)
 | solved {g:GI} {gs:List GI} {t:T} {st:ag}:s.goals=g::gs->Res s.st (.one g.t t)->bw t=true->dI t=false->bB t=true->Blt s.st t 0 st->
   StepI p nc s (some ⟨st,gs,s.chs,s.nodes++[⟨t,g.up,-1⟩]⟩) (-1)
 | fail {g:GI} {gs:List GI} {t:T} {st:ag} {o:Option SI}:s.goals=g::gs->Res s.st (.one g.t t)->bw t=true->dI t=false->bB t=true->Blt s.st t 1 st->
   BackI p s.chs s.st.length (s.nodes++[⟨t,g.up,-1⟩]) o->StepI p nc s o (if o.isSome then -1 else 0)
 | err {g:GI} {gs:List GI} {t:T} {st:ag} {c:Int}:s.goals=g::gs->Res s.st (.one g.t t)->bw t=true->dI t=false->bB t=true->Blt s.st t c st->c≠0->c≠1->StepI p nc s none (Im c)
 | unknown {g:GI} {gs:List GI} {t:T}:s.goals=g::gs->Res s.st (.one g.t t)->bw t=true->dI t=false->bB t=false->fS p t=[]->StepI p nc s none 8
 | took {g:GI} {gs:List GI} {t:T} {r:HI} {m:Nat}:s.goals=g::gs->Res s.st (.one g.t t)->bw t=true->dI t=false->bB t=false->fS p t≠[]->
   TryI p t (fS p t) s.st (some r) m->StepI p nc s (some (fO s.chs (s.nodes++[⟨t,g.up,-1⟩]) t s.nodes.length gs s.st r)) (-1)
 | back {g:GI} {gs:List GI} {t:T} {m:Nat} {o:Option SI}:s.goals=g::gs->Res s.st (.one g.t t)->bw t=true->dI t=false->bB t=false->fS p t≠[]->
   TryI p t (fS p t) s.st none m->BackI p s.chs m (s.nodes++[⟨t,g.up,-1⟩]) o->StepI p nc s o (if o.isSome then -1 else 0)
def Ni (n:Int):T:=.mk 1 n emptyB []
def ValsI (st:ag) (vars:List Int) (o:Option (List T)):Prop:=∃ us,Res st (.list (vars.map Ni) us)/\
 o=if us.all bw=true/\(dt us []).length<=26 then some (g9 (dt us []) us) else none
inductive RunI (p:List C) (vars:List Int) (most:Nat):Nat->SI->List (List T)->List (List T) × Int->Prop
 | fuel {s:SI} {out:List (List T)}:s.goals≠[]->RunI p vars most 0 s out (out,2)
 | stop {n:Nat} {s:SI} {out:List (List T)} {e:Int}:s.goals≠[]->StepI p false s none e->RunI p vars most (n+1) s out (out,e)
 | step {n:Nat} {s s':SI} {out:List (List T)} {e:Int} {r:List (List T) × Int}:s.goals≠[]->StepI p false s (some s') e->RunI p vars most n s' out r->RunI p vars most (n+1) s out r
 | more {n:Nat} {s:SI} {out:List (List T)}:s.goals=[]->out.length=most->RunI p vars most n s out (out,1)
 | large {n:Nat} {s:SI} {out:List (List T)}:s.goals=[]->out.length≠most->ValsI s.st vars none->RunI p vars most n s out (out,3)
 | last {n:Nat} {s:SI} {out:List (List T)} {vs:List T}:s.goals=[]->out.length≠most->ValsI s.st vars (some vs)->BackI p s.chs s.st.length s.nodes none->RunI p vars most n s out (out++[vs],0)
 | next {n:Nat} {s s':SI} {out:List (List T)} {vs:List T} {r:List (List T) × Int}:s.goals=[]->out.length≠most->ValsI s.st vars (some vs)->BackI p s.chs s.st.length s.nodes (some s')->RunI p vars most n s' (out++[vs]) r->RunI p vars most n s out r
structure ie (cl:C):Prop where
 head:(okU 26 cl.head/\wT cl.head<=1048576)/\okM cl.head
 body:∀ t∈cl.body,(okU 26 t/\wT t<=1048576)/\okM t
def okGI (N:Nat) (g:GI):Prop:=((okU N g.t/\wT g.t<=1048576)/\okM g.t)/\0<=g.cut
def cutsG (gs:List GI):Prop:=gs.Pairwise fun a b=>b.cut<=a.cut
structure okCI (m:Nat) (k:Nat) (c:CI):Prop where
 good:Good c.binds.length c.binds
 tab:tabM c.binds
 goal:(okU c.binds.length c.goal/\wT c.goal<=1048576)/\okM c.goal
 rest:∀ g∈c.rest,okGI c.binds.length g/\g.cut<=k
 cuts:cutsG c.rest
 left:∀ i∈c.left,0<=i/\i<m
 node:0<=c.node/\c.node<c.taken
structure okCs (m n k:Nat) (cs:List CI):Prop where
 at_:∀ i (h:i<cs.length),okCI m i cs[i]/\cs[i].binds.length<=n/\cs[i].taken<=k
 srt:cs.Pairwise fun a b=>a.taken<=b.taken
structure pQ (m:Nat) (s:SI):Prop where
 good:Good s.st.length s.st
 tab:tabM s.st
 goals:∀ g∈s.goals,okGI s.st.length g/\g.cut<=s.chs.length
 cuts:cutsG s.goals
 chs:okCs m s.st.length s.nodes.length s.chs
def eW:List CI->Nat
 | []=>0
 | c::cs=>c.left.length+eW cs
theorem oz:∀ a b:List CI,eW (a++b)=eW a+eW b
 | [],b=>by simp [eW]
 | x::a,b=>by rw [List.cons_append,eW,eW,oz a b,Nat.add_assoc]
theorem BQ:∀ (a:List CI) (k:Nat),eW (a.take k)<=eW a
 | [],k=>by simp [eW]
 | x::a,0=>by simp [eW]
 | x::a,k+1=>by
  have:=BQ a k
  rw [List.take_succ_cons,eW,eW]
  omega
theorem okCs.nil (m n k:Nat):okCs m n k []:=⟨fun i h=>by simp at h,List.Pairwise.nil⟩
theorem okCs.snoc {m n k:Nat} {cs:List CI} {c:CI} (h:okCs m n k cs) (hc:okCI m cs.length c/\c.binds.length<=n/\c.taken=k):okCs m n k (cs++[c]):=by
 refine ⟨fun i hi=>?_,?_⟩
 ·rw [List.length_append,List.length_cons,List.length_nil] at hi
  by_cases hic:i<cs.length
  ·rw [List.getElem_append_left hic]; exact h.at_ i hic
  ·obtain rfl:i=cs.length:=by omega
   rw [List.getElem_append_right (Nat.le_refl _)]
   simp only [Nat.sub_self,List.getElem_cons_zero]
   exact ⟨hc.1,hc.2.1,Nat.le_of_eq hc.2.2⟩
 ·rw [List.pairwise_append]
  refine ⟨h.srt,List.pairwise_singleton _ _,fun a ha b hb=>?_⟩
  simp only [List.mem_singleton] at hb
  subst hb
  obtain ⟨i,hi,rfl⟩:=List.getElem_of_mem ha
  rw [hc.2.2]
  exact (h.at_ i hi).2.2
theorem okCs.last {m n k:Nat} {cs:List CI} {c:CI} (h:okCs m n k (cs++[c])):okCs m n c.taken cs/\okCI m cs.length c/\c.binds.length<=n/\c.taken<=k:=by
 have hs:=h.srt
 rw [List.pairwise_append] at hs
 refine ⟨⟨fun i hi=>?_,hs.1⟩,?_⟩
 ·have:=h.at_ i (by rw [List.length_append]; omega)
  rw [List.getElem_append_left hi] at this
  exact ⟨this.1,this.2.1,hs.2.2 _ (List.getElem_mem hi) c (by simp)⟩
 ·have:=h.at_ cs.length (by rw [List.length_append]; simp)
  rw [List.getElem_append_right (Nat.le_refl _)] at this
  simpa using this
theorem okCs.mono {m n k n' k':Nat} {cs:List CI} (h:okCs m n k cs) (hn:n<=n') (hk:k<=k'):okCs m n' k' cs:=⟨fun i hi=>⟨(h.at_ i hi).1,Nat.le_trans (h.at_ i hi).2.1 hn,Nat.le_trans (h.at_ i hi).2.2 hk⟩,h.srt⟩
theorem okCs.take {m n k:Nat} {cs:List CI} (h:okCs m n k cs) (j:Nat):okCs m n k (cs.take j):=⟨fun i hi=>by
 rw [List.length_take] at hi
 rw [List.getElem_take]
 exact h.at_ i (by omega),h.srt.sublist (List.take_sublist _ _)⟩
theorem Good.g26 {st:ag} (h:Good st.length st):Good (st.length+26) (g26 st):=h.grow 26
theorem tabM.g26 {st:ag} (h:tabM st):tabM (g26 st):=h.grow 26
theorem Good.to {st:ag} (h:Good st.length st) {n:Nat} (hn:st.length<=n):Good n (be st n):=by
 have:=h.grow (n - st.length)
 rwa [show st.length+(n - st.length)=n by omega] at this
theorem tabM.to {st:ag} (h:tabM st) (n:Nat):tabM (be st n):=h.grow _
theorem Jc {st:ag} {g:T} {cl:C} (hg:okU st.length g/\wT g<=1048576) (hcl:ie cl):okJ (st.length+26) (.one g (bv st.length cl.head)):=by
 refine ⟨⟨fm (Nat.le_add_right ..) _ hg.1,hg.2⟩,?_,?_⟩
 ·have:=iW st.length cl.head hcl.head.1.1
  rwa [Nat.add_comm] at this
 ·rw [lp]; exact hcl.head.1.2
theorem TryI.ex {p:List C} (hp:∀ cl∈p,ie cl) {g:T}:∀ (l:List Int) (st:ag),Good st.length st->(okU st.length g/\wT g<=1048576)->(∀ i∈l,0<=i/\i<p.length)->∃ o n,TryI p g l st o n
 | [],st,_,_,_=>⟨none,_,.nil⟩
 | i::l,st,hg,ho,hl=>by
  obtain ⟨h0,h1⟩:=hl i (List.mem_cons_self ..)
  obtain ⟨j,rfl⟩:∃ j:Nat,i=j:=⟨i.toNat,by omega⟩
  have hj:j<p.length:=by omega
  have hgj:p[j]?=some p[j]:=List.getElem?_eq_getElem hj
  have hcl:=hp _ (List.getElem_mem hj)
  obtain ⟨r,st',hu⟩:=yY _ _ hg.g26 (Nat.le_refl _) _ (Jc ho hcl)
  cases r with
  | true=>exact ⟨_,_,.hit hgj hu⟩
  | false=>
   have hlen:=iL st
   obtain ⟨o,n,ht⟩:=TryI.ex hp l (g26 st) (by rw [hlen]; exact hg.g26) (by rw [hlen]; exact ⟨fm (Nat.le_add_right ..) _ ho.1,ho.2⟩) fun i hi=>hl i (List.mem_cons_of_mem _ hi)
   exact ⟨o,n,.miss hgj hu ht⟩
theorem TryI.ok {p:List C} (hp:∀ cl∈p,ie cl) {g:T} {l:List Int} {st:ag} {o:Option HI} {n:Nat} (h:TryI p g l st o n):Good st.length st->tabM st->((okU st.length g/\wT g<=1048576)/\okM g)->
  st.length<=n/\(o=none->n=st.length+26 * l.length)/\∀ r,o=some r->r.cl∈p/\p[r.i]?=some r.cl/\st.length<=r.by_/\r.st.length=r.by_+26/\n=r.by_+26/\Good n r.st/\tabM r.st/\n+26 * r.l.length<=st.length+26 * l.length/\(∀ i∈r.l,i∈l):=by
 induction h with
 | nil=>intro _ _ _; exact ⟨Nat.le_refl _,fun _=>by simp,fun r hr=>by cases hr⟩
 | @hit i l cl st st' hi hu=>
  intro hg ht ho
  have hcl:=hp _ (List.mem_of_getElem? hi)
  obtain ⟨hg',_⟩:=hu.good hg.g26 (Jc ho.1 hcl)
  have ht':=hu.okM ht.g26 ⟨ho.2,lJ _ _ hcl.head.2⟩
  refine ⟨by omega,(fun h=>by cases h),fun r hr=>?_⟩
  simp only [Option.some.injEq] at hr
  subst hr
  refine ⟨List.mem_of_getElem? hi,hi,Nat.le_refl _,hg'.len,rfl,hg',ht',?_,fun i hi=>List.mem_cons_of_mem _ hi⟩
  simp only [List.length_cons]
  omega
 | @miss i l cl st st' o n hi hu _ ih=>
  intro hg ht ho
  have hlen:=iL st
  obtain ⟨h1,h2,h3⟩:=ih (by rw [hlen]; exact hg.g26) ht.g26 ⟨by rw [hlen]; exact ⟨fm (Nat.le_add_right ..) _ ho.1.1,ho.1.2⟩,ho.2⟩
  rw [hlen] at h1 h2 h3
  refine ⟨by omega,fun h=>by rw [h2 h,List.length_cons]; omega,fun r hr=>?_⟩
  obtain ⟨a1,a2,a3,a4,a5,a6,a7,a8,a9⟩:=h3 r hr
  exact ⟨a1,a2,by omega,a4,a5,a6,a7,by rw [List.length_cons]; omega,fun i hi=>List.mem_cons_of_mem _ (a9 i hi)⟩
end
section
open Go Go.RowKit
theorem rH (ns:List NI) (a:Nat) (i:Int):(Di ns a i).length=ns.length:=by simp [Di]
theorem cutsG.body {cl:C} {b:Nat} {k u:Int} {rest:List GI} (h:cutsG rest) (hr:∀ g∈rest,g.cut<=k):cutsG (ji cl b k u rest):=by
 unfold ji cutsG
 rw [List.pairwise_append]
 refine ⟨?_,h,fun a ha b hb=>?_⟩
 ·rw [List.pairwise_map]
  exact List.pairwise_iff_forall_sublist.2 fun _=>Int.le_refl _
 ·obtain ⟨t,_,rfl⟩:=List.mem_map.1 ha
  exact hr b hb
theorem okGI.mono {N M:Nat} (h:N<=M) {g:GI} (hg:okGI N g):okGI M g:=⟨⟨⟨fm h _ hg.1.1.1,hg.1.1.2⟩,hg.1.2⟩,hg.2⟩
theorem JM {p:List C} (hp:∀ cl∈p,ie cl) {m:Nat} (hm:m=p.length) {g:T} {l:List Int} {b:ag} {r:HI} {n:Nat} (h:TryI p g l b (some r) n) (hg:Good b.length b) (ht:tabM b) (ho:(okU b.length g/\wT g<=1048576)/\okM g)
  {cs:List CI} {ns:List NI} {at_:Int} {rest:List GI} (hl:∀ i∈l,0<=i/\i<p.length) (hat:0<=at_/\at_<ns.length) (hr:∀ g∈rest,okGI b.length g/\g.cut<=cs.length) (hcu:cutsG rest) (hcs:okCs m b.length ns.length cs) :
  pQ m (fO cs ns g at_ rest b r)/\(fO cs ns g at_ rest b r).st.length+26 * eW (fO cs ns g at_ rest b r).chs<=b.length+26 * l.length+26 * eW cs/\(fO cs ns g at_ rest b r).nodes.length=ns.length/\b.length<=(fO cs ns g at_ rest b r).st.length:=by
 subst hm
 obtain ⟨h1,_,h3⟩:=h.ok hp hg ht ho
 obtain ⟨a1,a2,a3,a4,a5,a6,a7,a8,a9⟩:=h3 r rfl
 have hcl:=hp _ a1
 have hlen:r.st.length=n:=by omega
 have hchs:okCs p.length n ns.length (cs++(if r.l=[] then [] else [⟨g,at_,rest,r.l,b,ns.length⟩])):=by
  have h0:=hcs.mono (n':=n) (k':=ns.length) h1 (Nat.le_refl _)
  split
  ·rwa [List.append_nil]
  ·exact h0.snoc ⟨⟨hg,ht,ho,hr,hcu,fun i hi=>hl i (a9 i hi),hat⟩,h1,rfl⟩
 have hlc:cs.length<=(cs++(if r.l=[] then [] else [(⟨g,at_,rest,r.l,b,ns.length⟩:CI)])).length:=by rw [List.length_append]; omega
 refine ⟨⟨?_,a7,?_,hcu.body fun g hg=>(hr g hg).2,?_⟩,?_,rH _ _ _,by show b.length<=r.st.length; omega⟩
 ·show Good r.st.length r.st
  rw [hlen]; exact a6
 ·intro x hx
  have hx':x∈ji r.cl r.by_ cs.length at_ rest:=hx
  show okGI r.st.length x/\x.cut<=((cs++(if r.l=[] then [] else [(⟨g,at_,rest,r.l,b,ns.length⟩:CI)])).length:Int)
  unfold ji at hx'
  rcases List.mem_append.1 hx' with hx'|hx'
  ·obtain ⟨t,ht',rfl⟩:=List.mem_map.1 hx'
   obtain ⟨⟨q1,q2⟩,q3⟩:=hcl.body t ht'
   refine ⟨⟨⟨⟨?_,?_⟩,lJ _ _ q3⟩,by simp only; omega⟩,by simp only; omega⟩
   ·have:=iW r.by_ t q1
    rw [Nat.add_comm] at this
    rw [a4]; exact this
   ·simp only [lp]; exact q2
  ·obtain ⟨q1,q2⟩:=hr x hx'
   exact ⟨q1.mono (by omega),by omega⟩
 ·show okCs p.length r.st.length (Di ns at_.toNat r.i).length (cs++(if r.l=[] then [] else [⟨g,at_,rest,r.l,b,ns.length⟩]))
  rw [hlen,rH]; exact hchs
 ·show r.st.length+26 * eW (cs++(if r.l=[] then [] else [(⟨g,at_,rest,r.l,b,ns.length⟩:CI)]))<=_
  rw [oz]
  split
  ·simp only [eW]; omega
  ·simp only [eW]; omega
theorem okCI.grow {m k n:Nat} {c:CI} (h:okCI m k c) (hn:c.binds.length<=n):Good (be c.binds n).length (be c.binds n)/\tabM (be c.binds n)/\((okU (be c.binds n).length c.goal/\wT c.goal<=1048576)/\okM c.goal)/\
  ∀ g∈c.rest,okGI (be c.binds n).length g/\g.cut<=k:=by
 rw [bG hn]
 exact ⟨h.good.to hn,h.tab.to n,⟨⟨fm hn _ h.goal.1.1,h.goal.1.2⟩,h.goal.2⟩,fun g hg=>⟨(h.rest g hg).1.mono hn,(h.rest g hg).2⟩⟩
theorem BackI.ex {p:List C} (hp:∀ cl∈p,ie cl):∀ (L:Nat) (cs:List CI) (n:Nat) (ns:List NI),cs.length=L->okCs p.length n ns.length cs->∃ o,BackI p cs n ns o
 | 0,cs,n,ns,hL,_=>by
  obtain rfl:=List.eq_nil_of_length_eq_zero hL
  exact ⟨none,.nil⟩
 | L+1,cs,n,ns,hL,hcs=>by
  obtain ⟨init,c,rfl⟩:∃ init c,cs=init++[c]:=⟨cs.dropLast,cs.getLast (by intro e; rw [e] at hL; simp at hL),(List.dropLast_concat_getLast _).symm⟩
  rw [List.length_append,List.length_cons,List.length_nil] at hL
  obtain ⟨h1,h2,h3,h4⟩:=hcs.last
  obtain ⟨g1,g2,g3,g4⟩:=h2.grow h3
  obtain ⟨o,m,ht⟩:=TryI.ex hp c.left (be c.binds n) g1 g3.1 h2.left
  cases o with
  | some r=>exact ⟨_,.hit ht⟩
  | none=>
   obtain ⟨k1,_,_⟩:=ht.ok hp g1 g2 g3
   rw [bG h3] at k1
   obtain ⟨o,ho⟩:=BackI.ex hp L init m (ns.take c.taken) (by omega) (h1.mono k1 (by rw [List.length_take]; omega))
   exact ⟨o,.miss ht ho⟩
theorem BackI.ok {p:List C} (hp:∀ cl∈p,ie cl) {cs:List CI} {n:Nat} {ns:List NI} {o:Option SI} (h:BackI p cs n ns o):okCs p.length n ns.length cs->∀ s,o=some s->pQ p.length s/\s.st.length+26 * eW s.chs<=n+26 * eW cs/\s.nodes.length<=ns.length/\n<=s.st.length:=by
 induction h with
 | nil=>intro _ s hs; cases hs
 | @hit cs c n m ns r ht=>
  intro hcs s hs
  simp only [Option.some.injEq] at hs
  subst hs
  obtain ⟨h1,h2,h3,h4⟩:=hcs.last
  obtain ⟨g1,g2,g3,g4⟩:=h2.grow h3
  have hlt:(ns.take c.taken).length=c.taken:=by rw [List.length_take]; omega
  have hl:=bG h3
  obtain ⟨q1,q2,q3,q4⟩:=JM hp rfl ht g1 g2 g3 (cs:=cs) (ns:=ns.take c.taken) (at_:=c.node) (rest:=c.rest) h2.left (by rw [hlt]; exact h2.node) g4 h2.cuts (by rw [hlt,hl]; exact h1)
  rw [hl] at q2 q4
  refine ⟨q1,?_,by rw [q3,List.length_take]; omega,q4⟩
  rw [oz,eW,eW]
  omega
 | @miss cs c n m ns o ht _ ih=>
  intro hcs s hs
  obtain ⟨h1,h2,h3,h4⟩:=hcs.last
  obtain ⟨g1,g2,g3,g4⟩:=h2.grow h3
  obtain ⟨k1,k2,_⟩:=ht.ok hp g1 g2 g3
  have hl:=bG h3
  have k2:=k2 rfl
  rw [hl] at k1 k2
  have hlt:(ns.take c.taken).length=c.taken:=by rw [List.length_take]; omega
  obtain ⟨q1,q2,q3,q4⟩:=ih (by rw [hlt]; exact h1.mono k1 (Nat.le_refl _)) s hs
  refine ⟨q1,?_,by rw [List.length_take] at q3; omega,by omega⟩
  rw [oz,eW,eW]
  omega
theorem px {N:Nat} {st:ag} (hg:Good N st) {t u:T} (ht:(okU N t/\wT t<=1048576)/\okM t) (hm:tabM st) (hu:Res st (.one t u)):okU N u/\okM u:=⟨gu hg hu ht.1.1,hu.okM hm ht.2⟩
theorem eB {m n:Nat} {ns:List NI} {cs:List CI} (h:okCs m n ns.length cs) (x:NI):okCs m n (ns++[x]).length cs:=h.mono (Nat.le_refl _) (by simp)
theorem StepI.ex {p:List C} (hp:∀ cl∈p,ie cl) (nc:Bool) {s:SI} (hs:pQ p.length s) (hg:s.goals≠[]):∃ o e,StepI p nc s o e:=by
 obtain ⟨g,gs,hgs⟩:∃ g gs,s.goals=g::gs:=by
  cases h:s.goals with
  | nil=>exact absurd h hg
  | cons g gs=>exact ⟨g,gs,rfl⟩
 have hgo:=hs.goals
 rw [hgs] at hgo
 have hg1:=hgo g (List.mem_cons_self ..)
 obtain ⟨t,ht⟩:=DF hs.good g.t hg1.1.1.1.1
 obtain ⟨hut,hmt⟩:=px hs.good hg1.1.1 hs.tab ht
 cases hsm:bw t with
 | false=>exact ⟨_,_,.large hgs ht hsm⟩
 | true=>
  have hw:=er hsm hut
  cases hc:dI t with
  | true=>
   cases nc with
   | true=>exact ⟨_,_,.noCut hgs ht hsm hc rfl⟩
   | false=>exact ⟨_,_,.cut hgs ht hsm hc rfl⟩
  | false=>
   have hns:=eB hs.chs ⟨t,g.up,-1⟩
   cases hb:bB t with
   | true=>
    obtain ⟨c,st,hB⟩:=Blt.ex hs.good hb ⟨hut,by omega⟩
    by_cases h0:c=0
    ·subst h0; exact ⟨_,_,.solved hgs ht hsm hc hb hB⟩
    by_cases h1:c=1
    ·subst h1
     obtain ⟨o,ho⟩:=BackI.ex hp _ s.chs s.st.length (s.nodes++[(⟨t,g.up,-1⟩:NI)]) rfl hns
     exact ⟨_,_,.fail hgs ht hsm hc hb hB ho⟩
    ·exact ⟨_,_,.err hgs ht hsm hc hb hB h0 h1⟩
   | false=>
    by_cases hf:fS p t=[]
    ·exact ⟨_,_,.unknown hgs ht hsm hc hb hf⟩
    obtain ⟨o,m,hT⟩:=TryI.ex hp (fS p t) s.st hs.good ⟨hut,by omega⟩ (l0 p t)
    cases o with
    | some r=>exact ⟨_,_,.took hgs ht hsm hc hb hf hT⟩
    | none=>
     obtain ⟨k1,_,_⟩:=hT.ok hp hs.good hs.tab ⟨⟨hut,by omega⟩,hmt⟩
     obtain ⟨o,ho⟩:=BackI.ex hp _ s.chs m (s.nodes++[(⟨t,g.up,-1⟩:NI)]) rfl (hns.mono k1 (Nat.le_refl _))
     exact ⟨_,_,.back hgs ht hsm hc hb hf hT ho⟩
theorem StepI.ok {p:List C} (hp:∀ cl∈p,ie cl) {nc:Bool} {s:SI} {o:Option SI} {e:Int} (h:StepI p nc s o e) (hs:pQ p.length s):∀ s',o=some s'->pQ p.length s'/\s'.st.length+26 * eW s'.chs<=s.st.length+26 * eW s.chs+26 * p.length/\s'.nodes.length<=s.nodes.length+1/\e=-1/\s.st.length<=s'.st.length:=by
 have hgood:=hs.good
 cases h with
 | large=>intro s' h; cases h
 | noCut=>intro s' h; cases h
 | err=>intro s' h; cases h
 | unknown=>intro s' h; cases h
 | @cut g gs t hgs ht hsm hc hnc=>
  intro s' h
  simp only [Option.some.injEq] at h
  subst h
  have hgo:=hs.goals
  have hcu:=hs.cuts
  rw [hgs] at hgo hcu
  have hg1:=hgo g (List.mem_cons_self ..)
  have hcut:=hg1.1.2
  have hle:=hg1.2
  rw [cutsG,List.pairwise_cons] at hcu
  have hlt:(s.chs.take g.cut.toNat).length=g.cut.toNat:=by rw [List.length_take]; omega
  refine ⟨⟨hs.good,hs.tab,fun x hx=>⟨(hgo x (List.mem_cons_of_mem _ hx)).1,?_⟩,hcu.2,(eB hs.chs _).take _⟩,?_,by simp,rfl,Nat.le_refl _⟩
  ·have:=hcu.1 x hx
   show x.cut<=((s.chs.take g.cut.toNat).length:Int)
   rw [hlt]; omega
  ·have:=BQ s.chs g.cut.toNat
   show s.st.length+26 * eW (s.chs.take g.cut.toNat)<=_
   omega
 | @solved g gs t st hgs ht hsm hc hb hB=>
  intro s' h
  simp only [Option.some.injEq] at h
  subst h
  have hgo:=hs.goals
  have hcu:=hs.cuts
  rw [hgs] at hgo hcu
  have hg1:=hgo g (List.mem_cons_self ..)
  obtain ⟨hut,hmt⟩:=px hs.good hg1.1.1 hs.tab ht
  have hw:=er hsm hut
  have hgd:=hB.good hs.good hb ⟨hut,by omega⟩
  have htb:=hB.okM hs.tab hmt
  have hlen:=hgd.len
  rw [cutsG,List.pairwise_cons] at hcu
  refine ⟨⟨by show Good st.length st; rw [hlen]; exact hgd,htb,fun x hx=>?_,hcu.2,?_⟩,?_,by simp,rfl,Nat.le_of_eq hlen.symm⟩
  ·show okGI st.length x/\_
   rw [hlen]
   exact hgo x (List.mem_cons_of_mem _ hx)
  ·show okCs p.length st.length (s.nodes++[(⟨t,g.up,-1⟩:NI)]).length s.chs
   rw [hlen]; exact eB hs.chs _
  ·show st.length+26 * eW s.chs<=_
   omega
 | @fail g gs t st o hgs ht hsm hc hb hB ho=>
  intro s' h
  subst h
  obtain ⟨q1,q2,q3,q4⟩:=ho.ok hp (eB hs.chs _) s' rfl
  rw [List.length_append] at q3
  exact ⟨q1,by omega,by simpa using q3,rfl,q4⟩
 | @took g gs t r m hgs ht hsm hc hb hf hT=>
  intro s' h
  simp only [Option.some.injEq] at h
  subst h
  have hgo:=hs.goals
  have hcu:=hs.cuts
  rw [hgs] at hgo hcu
  have hg1:=hgo g (List.mem_cons_self ..)
  obtain ⟨hut,hmt⟩:=px hs.good hg1.1.1 hs.tab ht
  have hw:=er hsm hut
  rw [cutsG,List.pairwise_cons] at hcu
  obtain ⟨q1,q2,q3,q4⟩:=JM hp rfl hT hs.good hs.tab ⟨⟨hut,by omega⟩,hmt⟩ (cs:=s.chs) (ns:=s.nodes++[(⟨t,g.up,-1⟩:NI)]) (at_:=s.nodes.length) (rest:=gs) (l0 p t) (by simp; omega) (fun x hx=>hgo x (List.mem_cons_of_mem _ hx)) hcu.2 (eB hs.chs _)
  have hl:(fS p t).length<=p.length:=pH _ _ _
  exact ⟨q1,by omega,by rw [q3]; simp,rfl,q4⟩
 | @back g gs t m o hgs ht hsm hc hb hf hT ho=>
  intro s' h
  subst h
  have hgo:=hs.goals
  rw [hgs] at hgo
  have hg1:=hgo g (List.mem_cons_self ..)
  obtain ⟨hut,hmt⟩:=px hs.good hg1.1.1 hs.tab ht
  have hw:=er hsm hut
  obtain ⟨k1,k2,_⟩:=hT.ok hp hs.good hs.tab ⟨⟨hut,by omega⟩,hmt⟩
  have k2:=k2 rfl
  have hl:(fS p t).length<=p.length:=pH _ _ _
  obtain ⟨q1,q2,q3,q4⟩:=ho.ok hp ((eB hs.chs _).mono k1 (Nat.le_refl _)) s' rfl
  rw [List.length_append] at q3
  exact ⟨q1,by omega,by simpa using q3,rfl,by omega⟩
theorem M3 {N:Nat} {st:ag} (h:Good N st) {vars:List Int} (hv:∀ n∈vars,0<=n/\n<N):∃ o,ValsI st vars o:=by
 obtain ⟨us,hus⟩:=sE h (vars.map Ni) (ma fun t ht=>by
  obtain ⟨n,hn,rfl⟩:=List.mem_map.1 ht
  obtain ⟨h0,h1⟩:=hv n hn
  show okU N (.mk 1 n emptyB [])
  rw [okU,bH]
  exact ⟨by decide,fun _=>⟨h0,by omega,rfl,rfl⟩,trivial,vB⟩)
 exact ⟨_,us,hus,rfl⟩
theorem RunI.ex {p:List C} (hp:∀ cl∈p,ie cl) {vars:List Int} (hv:∀ n∈vars,0<=n/\n<26) (most:Nat):∀ (M n:Nat) (s:SI) (out:List (List T)),n+(most - out.length)<=M->out.length<=most->pQ p.length s->26<=s.st.length->∃ r,RunI p vars most n s out r
 | 0,n,s,out,hM,ho,hs,h26=>by
  obtain rfl:n=0:=by omega
  by_cases hg:s.goals=[]
  ·exact ⟨_,.more hg (by omega)⟩
  ·exact ⟨_,.fuel hg⟩
 | M+1,n,s,out,hM,ho,hs,h26=>by
  by_cases hg:s.goals=[]
  ·by_cases hm:out.length=most
   ·exact ⟨_,.more hg hm⟩
   obtain ⟨v,hv1⟩:=M3 hs.good (vars:=vars) fun n hn=>⟨(hv n hn).1,by have:=(hv n hn).2; omega⟩
   cases v with
   | none=>exact ⟨_,.large hg hm hv1⟩
   | some vs=>
    obtain ⟨b,hb⟩:=BackI.ex hp _ s.chs s.st.length s.nodes rfl hs.chs
    cases b with
    | none=>exact ⟨_,.last hg hm hv1 hb⟩
    | some s'=>
     obtain ⟨q1,_,_,q4⟩:=hb.ok hp hs.chs s' rfl
     have hl:(out++[vs]).length=out.length+1:=by simp
     obtain ⟨r,hr⟩:=RunI.ex hp hv most M n s' (out++[vs]) (by omega) (by omega) q1 (by omega)
     exact ⟨r,.next hg hm hv1 hb hr⟩
  ·cases n with
   | zero=>exact ⟨_,.fuel hg⟩
   | succ n=>
    obtain ⟨o,e,hst⟩:=StepI.ex hp false hs hg
    cases o with
    | none=>exact ⟨_,.stop hg hst⟩
    | some s'=>
     obtain ⟨q1,_,_,_,q4⟩:=hst.ok hp hs s' rfl
     obtain ⟨r,hr⟩:=RunI.ex hp hv most M n s' out (by omega) ho q1 (by omega)
     exact ⟨r,.step hg hst hr⟩
def fg (q:List T):SI:=⟨List.replicate 26 none,q.map fun t=>⟨t,0,-1⟩,[],[]⟩
theorem Kx (m:Nat) {q:List T} (h:∀ t∈q,(okU 26 t/\wT t<=1048576)/\okM t):pQ m (fg q):=by
 have hl:(List.replicate 26 (none:Option T)).length=26:=by simp
 refine ⟨by show Good (List.replicate 26 (none:Option T)).length _; rw [hl]; exact B6 26,tabM.none 26,fun g hg=>?_,?_,okCs.nil _ _ _⟩
 ·obtain ⟨t,ht,rfl⟩:=List.mem_map.1 hg
  show okGI (List.replicate 26 (none:Option T)).length _/\_
  rw [hl]
  exact ⟨⟨h t ht,Int.le_refl _⟩,Int.le_refl _⟩
 ·show List.Pairwise _ (q.map _)
  rw [List.pairwise_map]
  exact List.pairwise_iff_forall_sublist.2 fun _=>Int.le_refl _
theorem FQ {cl:C} (h:bh cl=true):ie cl:=by
 obtain ⟨h1,h2,h3⟩:=eq h
 have hm:=GH h
 have hb:=h
 rw [bh] at hb
 simp only [Bool.and_eq_true,decide_eq_true_eq,List.all_eq_true] at hb
 obtain ⟨hl,hgs,hvh,_⟩:=hb
 have hwh:=pA hvh
 exact ⟨⟨⟨h1,by omega⟩,hm.hd⟩,fun t ht=>⟨⟨h2 t ht,by have:=pA (kf (hgs t ht)); omega⟩,hm.bd t ht⟩⟩
end
section
open Go Go.RowKit
theorem kQ (st:ag):∀ ns:List Int,(dr st ns).length=st.length:=by
 intro ns
 induction ns generalizing st with
 | nil=>rfl
 | cons n ns ih=>
  have h:=ih st
  have e:dr st (n::ns)=dr (dr st ns) [n]:=oA st [n] ns
  rw [e,show dr (dr st ns) [n]=(dr st ns).set n.toNat none from uX _ [] n,List.length_set,h]
theorem Km (st:ag) (k:Nat):∀ ns:List Int,dr (st++List.replicate k none) ns=dr st ns++List.replicate k none:=by
 intro ns
 apply List.ext_getElem?
 intro i
 rw [kM]
 by_cases hi:i<st.length
 ·rw [List.getElem?_append_left hi,List.getElem?_append_left (by rw [kQ]; exact hi),kM]
 ·rw [List.getElem?_append_right (by omega),List.getElem?_append_right (by rw [kQ]; omega),kQ,List.getElem?_replicate]
  split
  ·split <;> rfl
  ·rfl
theorem Gr (st:ag) {n m:Nat} (h:st.length<=n) (h':n<=m):be (be st n) m=be st m:=by
 unfold be
 rw [List.append_assoc,List.replicate_append_replicate]
 congr 2
 simp
 omega
theorem EZ (st:ag) (n:Nat) (ns:List Int):dr (be st n) ns=be (dr st ns) n:=by
 unfold be
 rw [Km,kQ]
def TrG (st st':ag) (tr tr':List Int):Prop:=st.length<=st'.length/\∃ ns,tr'=tr++ns/\dr st' ns=be st st'.length/\∀ n∈ns,0<=n
theorem TrG.refl (st:ag) (tr:List Int):TrG st st tr tr:=⟨Nat.le_refl _,[],(List.append_nil _).symm,by rw [fJ]; rfl,by simp⟩
theorem TrG.grow (st:ag) (tr:List Int) {n:Nat} (h:st.length<=n):TrG st (be st n) tr tr:=⟨by rw [bG h]; exact h,[],(List.append_nil _).symm,by rw [bG h]; rfl,by simp⟩
theorem TrG.of {st st':ag} {tr tr':List Int} (h:Tr st st' tr tr'):TrG st st' tr tr':=by
 obtain ⟨ns,h1,h2,h3,_⟩:=h
 have hl:st'.length=st.length:=by rw [<- h2,kQ]
 refine ⟨by omega,ns,h1,by rw [h2,hl,fJ],fun n hn=>?_⟩
 obtain ⟨j,rfl,_⟩:=h3 n hn
 omega
theorem TrG.trans {a b c:ag} {x y z:List Int} (h:TrG a b x y) (h':TrG b c y z):TrG a c x z:=by
 obtain ⟨l1,n1,e1,u1,p1⟩:=h
 obtain ⟨l2,n2,e2,u2,p2⟩:=h'
 refine ⟨by omega,n1++n2,by rw [e2,e1,List.append_assoc],?_,fun n hn=>(List.mem_append.1 hn).elim (p1 n) (p2 n)⟩
 rw [oA,u2,EZ,u1,Gr _ l1 l2]
theorem Tr.short {st st':ag} {tr tr':List Int} (h:Tr st st' tr tr'):tr'.length+unb st'<=tr.length+unb st:=by
 obtain ⟨ns,rfl,_,_,h4⟩:=h
 rw [List.length_append]
 omega
theorem mn:∀ (st:ag) (k:Nat),unb (st++List.replicate k none)=unb st+k
 | [],k=>by rw [List.nil_append,Af]; simp [unb]
 | none::st,k=>by simp only [List.cons_append,unb,mn st k]; omega
 | some t::st,k=>by simp only [List.cons_append,unb,mn st k]
inductive MkI:List CI->List Nat->ag->List Int->Prop
 | nil {st:ag} {tr:List Int}:MkI [] [] st tr
 | snoc {cs:List CI} {c:CI} {ms:List Nat} {st:ag} {tr0 tr:List Int}:MkI cs ms c.binds tr0->TrG c.binds st tr0 tr->MkI (cs++[c]) (ms++[tr0.length]) st tr
theorem MkI.len {cs:List CI} {ms:List Nat} {st:ag} {tr:List Int} (h:MkI cs ms st tr):ms.length=cs.length:=by
 induction h with
 | nil=>rfl
 | snoc _ _ ih=>rw [List.length_append,List.length_append,ih]; rfl
theorem MkI.go {cs:List CI} {ms:List Nat} {st st':ag} {tr tr':List Int} (h:MkI cs ms st tr) (hg:TrG st st' tr tr'):MkI cs ms st' tr':=by
 cases h with
 | nil=>exact .nil
 | snoc h1 h2=>exact .snoc h1 (h2.trans hg)
theorem MkI.push {cs:List CI} {c:CI} {ms:List Nat} {tr:List Int} (h:MkI cs ms c.binds tr):MkI (cs++[c]) (ms++[tr.length]) c.binds tr:=.snoc h (TrG.refl _ _)
theorem MkI.pop {cs:List CI} {c:CI} {ms:List Nat} {st:ag} {tr:List Int} (h:MkI (cs++[c]) ms st tr):∃ (ms0:List Nat) (m:Nat),ms=ms0++[m]/\m<=tr.length/\(∀ n∈tr.drop m,0<=n)/\dr st (tr.drop m)=be c.binds st.length/\
  MkI cs ms0 (be c.binds st.length) (tr.take m)/\MkI cs ms0 st tr:=by
 generalize hl:cs++[c]=l at h
 cases h with
 | nil=>simp at hl
 | @snoc cs' c' ms0 _ tr0 _ h1 h2=>
  obtain ⟨rfl,hc⟩:=List.append_inj' hl rfl
  simp only [List.cons.injEq,and_true] at hc
  subst hc
  obtain ⟨l1,ns,rfl,hu,hp⟩:=h2
  refine ⟨ms0,tr0.length,rfl,by simp,by simpa using hp,by simpa using hu,?_,h1.go ⟨l1,ns,rfl,hu,hp⟩⟩
  have:=h1.go (TrG.grow c.binds tr0 l1)
  simpa using this
theorem MkI.take {cs:List CI} {ms:List Nat} {st:ag} {tr:List Int}:∀ (k:Nat) (_:MkI cs ms st tr),MkI (cs.take (cs.length - k)) (ms.take (cs.length - k)) st tr
 | 0,h=>by
  have:=h.len
  rw [Nat.sub_zero,List.take_length,<- this,List.take_length]; exact h
 | k+1,h=>by
  have hk:=MkI.take k h
  by_cases hz:cs.length - k=0
  ·rw [show cs.length - (k+1)=0 by omega,List.take_zero,List.take_zero]; exact .nil
  have hl:=h.len
  obtain ⟨j,hj⟩:∃ j,cs.length - k=j+1:=⟨cs.length - k - 1,by omega⟩
  have hjc:j<cs.length:=by omega
  rw [hj,List.take_succ_eq_append_getElem hjc] at hk
  obtain ⟨ms0,m,e,_,_,_,_,h2⟩:=hk.pop
  have hl0:ms0.length=j:=by have:=h2.len; rw [List.length_take] at this; omega
  have e2:ms0=ms.take j:=by
   have h3:=congrArg (List.take j) e
   rw [List.take_take,Nat.min_eq_left (by omega),List.take_left' hl0] at h3
   exact h3.symm
  rw [show cs.length - (k+1)=j by omega,<- e2]
  exact h2
theorem MkI.cut {cs:List CI} {ms:List Nat} {st:ag} {tr:List Int} (h:MkI cs ms st tr) {k:Nat} (hk:k<=cs.length):MkI (cs.take k) (ms.take k) st tr:=by
 have:=MkI.take (cs.length - k) h
 rwa [show cs.length - (cs.length - k)=k by omega] at this
end
section
open Go Go.RowKit
inductive GL (S:ad):Value->List GI->Prop
 | nil:GL S (.pointer none) []
 | cons {b:Nat} {a0 a1 a2 a3 nv:Value} {E:TypeId} {fz:Nat × Nat} {g:GI} {gs:List GI}:S b=some (.cells #[a0,a1,a2,a3,.int .i64 g.cut,.int .i64 g.up,nv] E fz)->RdT S [a0,a1,a2,a3] g.t->GL S nv gs->GL S (.pointer (some ⟨b,0,none⟩)) (g::gs)
theorem GL.mono {S S':ad} (hs:Sle S S') {v:Value} {gs:List GI} (h:GL S v gs):GL S' v gs:=by
 induction h with
 | nil=>exact .nil
 | cons h1 h2 _ ih=>exact .cons (hs _ _ h1) (h2.mono hs) ih
theorem GL.ptr {S:ad} {v:Value} {gs:List GI} (h:GL S v gs):∃ p,v=.pointer p:=by
 cases h with
 | nil=>exact ⟨_,rfl⟩
 | cons=>exact ⟨_,rfl⟩
theorem RdT.four {S:ad} {cs:List Value} {t:T} (h:RdT S cs t):∃ a0 a1 a2 a3,cs=[a0,a1,a2,a3]:=by
 obtain ⟨kv,rfl,_⟩:=RdT.iff.1 h
 exact ⟨_,_,_,_,rfl⟩
section
variable {w:World} {K:Value->World->Prop}
attribute [local irreducible] Run
theorem KG {a b c d:Value} {i j:Int} {p:Option Addr} (hk:K (.agg #[a,b,c,d,.int .i64 i,.int .i64 j,.pointer p]) w):Run Tryz.prog (bJ ko [(0,.agg #[a,b,c,d]),(1,.int .i64 i),(2,.int .i64 j),(3,.pointer p)]) w K:=by
 refine Run.of (v:=.agg #[a,b,c,d,.int .i64 i,.int .i64 j,.pointer p]) (w':=w) ?_ hk
 unfold bJ
 rw [Sem.run_bind,run_build w ko _ #[a,b,c,d,.int .i64 i,.int .i64 j,.pointer p] (by kernel_rfl),Result.andThen_ok]
 rfl
theorem FE {a b c d:Value} {i j:Int} (hk:K (.agg #[a,b,c,d,.int .i64 i,.int .i64 j]) w):Run Tryz.prog (bJ iI [(0,.agg #[a,b,c,d]),(1,.int .i64 i),(2,.int .i64 j)]) w K:=by
 refine Run.of (v:=.agg #[a,b,c,d,.int .i64 i,.int .i64 j]) (w':=w) ?_ hk
 unfold bJ
 rw [Sem.run_bind,run_build w iI _ #[a,b,c,d,.int .i64 i,.int .i64 j] (by kernel_rfl),Result.andThen_ok]
 rfl
theorem Bk {a b c d:Value} {i j k:Int} {p:Option Addr} {q:Option Addr} {n m:Nat} (hk:K (.agg #[a,b,c,d,.int .i64 i,.pointer p,.slice q n m,.int .i64 j,.int .i64 k]) w) :
  Run Tryz.prog (bJ cS [(0,.agg #[a,b,c,d]),(1,.int .i64 i),(2,.pointer p),(3,.slice q n m),(4,.int .i64 j),(5,.int .i64 k)]) w K:=by
 refine Run.of (v:=.agg #[a,b,c,d,.int .i64 i,.pointer p,.slice q n m,.int .i64 j,.int .i64 k]) (w':=w) ?_ hk
 unfold bJ
 rw [Sem.run_bind,run_build w cS _ #[a,b,c,d,.int .i64 i,.pointer p,.slice q n m,.int .i64 j,.int .i64 k] (by kernel_rfl),Result.andThen_ok]
 rfl
end
section
attribute [local irreducible] Run CondV ai az
theorem Cj {ts:List T} {S:ad} {v gv:Value} {gs:List GI} {cut up:Int} (h:RdSl S 4 (RdT S) v ts) (hg:GL S gv gs):Tri Tryz.prog NV [v,.int .i64 cut,.int .i64 up,gv] [] S fun q I' S'=>I'=[]/\GL S' q (ts.map (fun t=>⟨t,cut,up⟩)++gs):=by
 intro w hI
 have hlen:=h.le
 simp only [maxLen] at hlen
 refine E0.2 ?_
 dsimp only[E0,iB]
 refine aG h ah ?_
 refine iw (by omega) ?_
 refine ⟨fun i q w'=>∃ (j:Nat) (S1:ad),j<=ts.length/\i=.int .i64 ((j:Int) - 1)/\Ext w.heap.size [] S S1/\GL S1 q ((ts.drop j).map (fun t=>⟨t,cut,up⟩)++gs)/\Inv w [] [] S1 w',fun i _ _=>((intOf i)+1).toNat,
  ⟨ts.length,S,Nat.le_refl _,rfl,Ext.refl _ _ _,by rw [List.drop_length]; exact hg,hI⟩,?_⟩
 intro t9 _ _ t3 _ _ _ _ _ _ _ _ _ _ _ w'
 rintro ⟨j,S1,hj,rfl,hE,hgl,hI⟩
 refine j0 ?_
 refine aI (fun h0=>?_) (fun h0=>?_)
 ·obtain ⟨k,rfl⟩:∃ k,j=k+1:=⟨j - 1,by omega⟩
  have hk:k<ts.length:=by omega
  rw [show (((k+1:Nat):Int) - 1)=(k:Int) by omega]
  refine ci hI (h.monoT hE.1) ah ac hk (fun _ _=>RdT.length) fun cs hcs=>?_
  obtain ⟨a0,a1,a2,a3,rfl⟩:=hcs.four
  obtain ⟨p,rfl⟩:=hgl.ptr
  refine KG ?_
  refine bt hI fun b w' hI=>?_
  have hI:Inv w [] ([]++[.blk b (.cells #[a0,a1,a2,a3,.int .i64 cut,.int .i64 up,.pointer p] ko)]) S1 w':=hI
  obtain ⟨S2,hI,hE2,hS2⟩:=Inv.pub1 hI
  refine iw (by omega) ?_
  refine ⟨⟨k,S2,by omega,rfl,hE.trans hE2,?_,hI⟩,by simp only [intOf]; omega⟩
  rw [List.drop_eq_getElem_cons hk,List.map_cons,List.cons_append]
  exact GL.cons hS2 (hcs.mono hE2.1) (hgl.mono hE2.1)
 ·have:j=0:=by omega
  subst this
  exact ⟨_,_,S1,rfl,hI,hE,rfl,by simpa using hgl⟩
theorem Kd {S:ad} {b:Nat} {by_:Int} {E:TypeId} {fz:Nat × Nat} (hb:S b=some (.cells #[.int .i64 by_] E fz)) (h0:0<=by_/\by_<=10000000):Fun lM [.pointer (some ⟨b,0,none⟩)] S fun n=>.mk 1 (n+by_) ⟨#[]⟩ []:=by
 intro S' hle n hn0 hn25
 have hb':=hle _ _ hb
 refine ⟨[.int .i64 1,.int .i64 (n+by_),.string ⟨#[]⟩,.slice none 0 0],RdT.nil (by simp [inI]) (by simp only [inI]; omega) (show 0<=maxLen from Nat.zero_le _) (by simp [maxLen]),fun w hI=>?_⟩
 refine jL.2 ?_
 dsimp only[jL,aX]
 refine aM hI aU fun b2 w' hI=>?_
 refine bX aE (by rw [hI.cellS hb']; rfl) ?_
 refine bq (by omega) ?_
 refine Run.callPure kL kw hI (jx _ S') fun w' hI=>?_
 refine av hI 0 rfl ac rfl rfl (by simp [Value.oneCell']) fun w' hI=>?_
 refine bl hI 0 ac rfl rfl ?_
 exact done hI rfl
end
mutual
theorem nU {N:Nat} (b:Nat):∀ t:T,okU N t->Br (fun n=>.mk 1 (n+(b:Int)) ⟨#[]⟩ []) t=bv b t
 | .mk k n s ks,h=>by
  rw [okU] at h
  rw [Br,bv]
  by_cases hk:k=1
  ·have h1:=h.2.1 hk
   rw [if_pos hk,if_pos hk,h1.2.2.2,ek,h1.2.2.1,hk]
   rfl
  ·rw [if_neg hk,if_neg hk,sP b ks h.2.2.1]
theorem sP {N:Nat} (b:Nat):∀ ts:List T,bH N ts->sX (fun n=>.mk 1 (n+(b:Int)) ⟨#[]⟩ []) ts=ek b ts
 | [],_=>rfl
 | t::ts,h=>by
  rw [bH] at h
  rw [sX,ek,nU b t h.1,sP b ts h.2]
end
end
section
open Go Go.RowKit
theorem v6 {k f:Nat} {x:Value}:∀ (css:List (List Value)) (j:Nat) (_:∀ cs∈css,cs.length=k) (h:j<css.length) (_:f<k),css.flatten.set (j * k+f) x=(css.set j (css[j].set f x)).flatten
 | [],j,_,h,_=>by simp at h
 | c::css,0,hk,_,hf=>by
  have:=hk c (List.mem_cons_self ..)
  rw [List.flatten_cons,Nat.zero_mul,Nat.zero_add,List.set_append_left _ _ (by omega)]
  rfl
 | c::css,j+1,hk,h,hf=>by
  have hc:=hk c (List.mem_cons_self ..)
  have ih:=v6 (x:=x) css j (fun cs hcs=>hk cs (List.mem_cons_of_mem _ hcs)) (by simpa using h) hf
  have e:(j+1) * k+f=c.length+(j * k+f):=by rw [Nat.succ_mul,hc]; omega
  rw [List.flatten_cons,e,List.set_append_right _ _ (by omega),Nat.add_sub_cancel_left,ih]
  rfl
theorem DD (c:Array Value) (p:Nat) (x:Value) (h:p<c.size):(bf c p [x]).toList=c.toList.set p x:=by
 unfold bf
 rw [List.set_eq_take_append_cons_drop,if_pos (by simpa using h)]
 simp
theorem Rows.set {α:Type} {k:Nat} {R:List Value->α->Prop} {css:List (List Value)} {ys:List α} (h:Rows k R css ys) {cs:List Value} {y:α} (j:Nat) (hR:R cs y) (hl:cs.length=k):Rows k R (css.set j cs) (ys.set j y):=by
 refine ⟨by rw [List.length_set,List.length_set,h.hc],fun c hc=>?_,fun i h0 h2=>?_⟩
 ·rcases List.mem_or_eq_of_mem_set hc with hc|rfl
  ·exact h.hk c hc
  ·exact hl
 ·rw [List.getElem_set,List.getElem_set]
  split
  ·exact hR
  ·exact h.hR i (by simpa using h0) (by simpa using h2)
theorem Rows.take {α:Type} {k:Nat} {R:List Value->α->Prop} {css:List (List Value)} {ys:List α} (h:Rows k R css ys) (n:Nat):Rows k R (css.take n) (ys.take n):=by
 have:=h.hc
 refine ⟨by rw [List.length_take,List.length_take,h.hc],fun c hc=>h.hk c (List.mem_of_mem_take hc),fun i h0 h2=>?_⟩
 rw [List.length_take] at h0
 simp only [List.getElem_take]
 exact h.hR i (by omega) (by omega)
theorem rI {k:Nat}:∀ (css:List (List Value)) (n:Nat) (_:∀ cs∈css,cs.length=k),css.flatten.take (n * k)=(css.take n).flatten
 | [],n,_=>by simp
 | c::css,0,_=>by simp
 | c::css,n+1,hk=>by
  have hc:=hk c (List.mem_cons_self ..)
  have ih:=rI css n fun cs hcs=>hk cs (List.mem_cons_of_mem _ hcs)
  rw [List.flatten_cons,Nat.succ_mul,Nat.add_comm,List.take_append,List.take_of_length_le (by omega),hc,Nat.add_sub_cancel_left,ih]
  rfl
def NY (v:Value) (h:Nat):Value:=match v with
 | .slice a _ cap=>.slice a h cap
 | v=>v
section
variable {P:Program} {w w0:World} {X:List Nat} {L:List Item} {S:ad} {K:Value->World->Prop}
attribute [local irreducible] Run CondV ai az
theorem Inv.swapItem (h:Inv w0 X L S w) {i:Nat} {a b:Item} (hi:L[i]?=some a) (hf:b.foot=a.foot) (hb:b.holds w):Inv w0 X (L.set i b) S w:=by
 have hl:=(List.getElem?_eq_some_iff.1 hi).1
 have hfe:bk (L.set i b)=bk L:=by
  have e:L.map Item.foot=(L.set i b).map Item.foot:=by
   rw [List.map_set,hf]
   apply List.ext_getElem?
   intro j
   rw [List.getElem?_set]
   split
   ·rename_i e
    subst e
    rw [if_pos (by simpa using hl),List.getElem?_map,hi]
    rfl
   ·rfl
  unfold bk
  rw [List.flatMap_def,List.flatMap_def]
  congr 1
  rw [List.map_set]
  apply List.ext_getElem?
  intro j
  rw [List.getElem?_set]
  split
  ·rename_i e
   subst e
   rw [if_pos (by simpa using hl),List.getElem?_map,hi]
   simp [hf]
  ·rfl
 refine ⟨h.size,h.os,h.tape,h.output,h.old,fun it hit=>?_,by rw [hfe]; exact h.nd,by rw [hfe]; exact h.new,by rw [hfe]; exact h.pub⟩
 rcases List.mem_or_eq_of_mem_set hit with hit|rfl
 ·exact h.its it hit
 ·exact hb
theorem Inv.rowSlice' (h:Inv w0 X L S w) {i k n:Nat} {e:TypeId} {v:Value} {xs:List Value} (hi:L[i]?=some (.row v e k n xs)):∃ a cap,v=.slice a n cap/\n<=cap:=by
 have hm:w.ownsRow 0 e k v n xs:=h.its (.row v e k n xs) (List.mem_of_getElem? hi)
 rcases hm.2 with ⟨rfl,hn⟩|⟨g,cap,cur,rfl,_,_,hn,_⟩
 ·exact ⟨_,_,by rw [hn],by omega⟩
 ·exact ⟨_,_,rfl,hn⟩
theorem Inv.cutRow (h:Inv w0 X L S w) {i k:Nat} {e:TypeId} {v:Value} {css:List (List Value)} (hi:L[i]?=some (aC v e k css)) {n:Nat} (hn:n<=css.length) (hk:∀ cs∈css,cs.length=k):Inv w0 X (L.set i (aC (NY v n) e k (css.take n))) S w:=by
 have hm:w.ownsRow 0 e k v css.length css.flatten:=h.its _ (List.mem_of_getElem? hi)
 refine h.swapItem hi ?_ ?_
 ·obtain ⟨a,cap,rfl,_⟩:=h.rowSlice' hi
  cases a <;> rfl
 ·show w.ownsRow 0 e k (NY v n) (css.take n).length (css.take n).flatten
  have hl:(css.take n).length=n:=by rw [List.length_take]; omega
  refine ⟨oR fun cs hc=>hk cs (List.mem_of_mem_take hc),?_⟩
  rcases hm.2 with ⟨rfl,h0⟩|⟨g,cap,cur,rfl,h1,h2,h3,h4,h5,h6⟩
  ·left
   have:n=0:=by omega
   subst this
   exact ⟨rfl,by simp⟩
  ·right
   refine ⟨g,cap,cur,by rw [hl]; rfl,h1,h2,by omega,h4,h5,?_⟩
   rw [hl,<- rI css n hk,<- h6,List.take_take,Nat.min_eq_left (Nat.mul_le_mul_right k hn)]
theorem Iz (h:Inv w0 X L S w) (i:Nat) {T ty e:TypeId} {k n m:Nat} {v:Value} {xs:List Value} (hi:L[i]?=some (.row v e k m xs)) (hT:bW P T=some (e,k)) (hn:n<=m) (hk:K (NY v n) w) :
  Run P (sOp (.slice T (.const v) none (some (.const (.int .i64 n))) none) ty) w K:=by
 obtain ⟨a,cap,rfl,hc⟩:=h.rowSlice' hi
 refine u6 hT (by omega) ?_
 cases a with
 | none=>split <;> exact hk
 | some a=>
  split
  ·exact hk
  ·obtain ⟨b,o,p⟩:=a
   have hm:w.ownsRow 0 e k (.slice (some ⟨b,o,p⟩) m cap) m xs:=h.its _ (List.mem_of_getElem? hi)
   rcases hm.2 with ⟨h0,_⟩|⟨g,cap',cur,h0,_⟩
   ·cases h0
   ·cases h0
    simpa [gr,NY] using hk
theorem Inv.rowPtr (h:Inv w0 X L S w) {i k:Nat} {e:TypeId} {v:Value} {css:List (List Value)} (hi:L[i]?=some (aC v e k css)) {j:Nat} (hj:j<css.length) (hk:∀ cs∈css,cs.length=k) :
  ∃ g cap,v=.slice (some ⟨g,0,none⟩) css.length cap/\(∀ f u,css[j][f]?=some u->w.cell? ⟨g,j * k+f,none⟩=some u):=by
 have hm:w.ownsRow 0 e k v css.length css.flatten:=h.its _ (List.mem_of_getElem? hi)
 rcases hm.2 with ⟨_,h0⟩|⟨g,cap,cur,rfl,h1,h2,h3,h4,h5,h6⟩
 ·omega
 ·refine ⟨g,cap,rfl,fun f u hf=>?_⟩
  rw [cell_of_row w g (j * k+f) cur e (0,0) h2]
  have hfl:=gF k css j hk hj
  have hfk:f<k:=by have:=(List.getElem?_eq_some_iff.1 hf).1; have:=hk _ (List.getElem_mem hj); omega
  rw [<- hfl,List.getElem?_take,if_pos hfk,List.getElem?_drop,<- h6,List.getElem?_take] at hf
  split at hf
  ·simpa using hf
  ·cases hf
theorem yZ (h:Inv w0 X L S w) {T ty e:TypeId} (i:Nat) {g cap k j f a:Nat} {css:List (List Value)} {x:Value} (hi:L[i]?=some (aC (.slice (some ⟨g,0,none⟩) css.length cap) e k css)) (hT:ib P T=true) (hj:j<css.length) (hf:f<k) (ha:a=j * k+f)
  (hkl:∀ cs∈css,cs.length=k) (hx:x.cells=#[x]) (h1:x.oneCell'=true)
  (hk:∀ w',Inv w0 X (L.set i (aC (.slice (some ⟨g,0,none⟩) css.length cap) e k (css.set j (css[j].set f x)))) S w'->K undef w') :
  Run P (sOp (.store T (.const (.pointer (some ⟨g,a,none⟩))) (.const x)) ty) w K:=by
 subst ha
 have hil:=(List.getElem?_eq_some_iff.1 hi).1
 have hie:=(List.getElem?_eq_some_iff.1 hi).2
 have hp:List.Perm L ((L.take i++L.drop (i+1))++[aC (.slice (some ⟨g,0,none⟩) css.length cap) e k css]):=by
  conv=>lhs; rw [<- List.take_append_drop i L,List.drop_eq_getElem_cons hil,hie]
  rw [List.append_assoc]
  exact List.Perm.append_left _ (List.perm_append_comm (l₁:=[_]))
 have hI:=h.perm hp.symm
 obtain ⟨_,ho⟩:=Inv.openRow hI
 rcases ho with ⟨h0,_⟩|⟨g',cap',cur,h0,hnc,hcm,hcs,ht,hI⟩
 ·cases h0
 cases h0
 have hlt:j * k+f<css.length * k:=by
  have:(j+1) * k<=css.length * k:=Nat.mul_le_mul_right k hj
  rw [Nat.succ_mul] at this
  omega
 have hcap:css.length * k<=cap * k:=Nat.mul_le_mul_right k hnc
 refine cw hI (L.take i++L.drop (i+1)).length (n:=1) (by rw [hx]; rfl) (by rw [hT]; rfl) (by rw [List.getElem?_append_right (Nat.le_refl _),Nat.sub_self]; rfl) (by omega) (by rw [hx]; simpa using h1) fun w' hI=>hk w' ?_
 rw [List.set_append_right _ _ (Nat.le_refl _),Nat.sub_self] at hI
 have hI:Inv w0 X ((L.take i++L.drop (i+1))++[.blk g (.cells (bf cur (j * k+f) x.cells.toList) e)]) S w':=hI
 rw [show x.cells.toList=[x] by rw [hx]] at hI
 have hI:=Inv.closeRow (n:=css.length) (cap:=cap) (k:=k) hI hnc hcm (by rw [fq _ _ _ (by simp; omega)]; exact hcs)
 rw [DD _ _ _ (by omega),List.take_set,ht,v6 css j hkl hj hf] at hI
 refine hI.perm ?_
 rw [List.set_eq_take_append_cons_drop,if_pos hil,List.append_assoc]
 refine List.Perm.append_left _ ?_
 rw [show Item.row (.slice (some ⟨g,0,none⟩) css.length cap) e k css.length (css.set j (css[j].set f x)).flatten=aC (.slice (some ⟨g,0,none⟩) css.length cap) e k (css.set j (css[j].set f x)) by simp [aC]]
 exact (List.perm_append_comm (l₁:=[_]))
end
end
end Go.Proofs.YtgllldjiaglkcaaGreatDoor
