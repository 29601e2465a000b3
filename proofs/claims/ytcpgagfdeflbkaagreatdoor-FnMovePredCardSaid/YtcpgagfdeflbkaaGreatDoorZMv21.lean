/- spec: the search stays small (tables, goals, choices, steps), in plain Lean. -/
import Derived.Test.YtcpgagfdeflbkaaGreatDoorZMv20
import Derived.Test.YtcpgagfdeflbkaaGreatDoorZMv17
namespace Go.Proofs.YtcpgagfdeflbkaaGreatDoor
section
open Go Go.RowKit
structure JH (cl:C):Prop where
 cf:rV cl
 hd:okM cl.head
 bd:∀ t∈cl.body,okM t
 fr:n3 cl<=26
 ln:cl.body.length<=6
 w:wC cl<=1048576
 vs:∀ x∈jI (cl.head::cl.body) [],0<=x/\x<1000000
mutual
theorem Kt {M N:Nat}:∀ t:T,okU M t->(∀ m∈vT t,m<N)->okU N t
 | .mk k n s ks,h,hv=>by
  rw [okU] at h ⊢
  rw [vT] at hv
  refine ⟨h.1,fun e=>?_,?_,h.2.2.2⟩
  ·obtain ⟨q1,q2,q3⟩:=h.2.1 e
   have:=hv n.toNat (by rw [if_pos e]; exact List.mem_singleton.2 rfl)
   exact ⟨q1,by omega,q3⟩
  ·by_cases e:k=1
   ·rw [(h.2.1 e).2.2.2,cD]; trivial
   ·rw [if_neg e] at hv
    exact tK ks h.2.2.1 hv
theorem tK {M N:Nat}:∀ ts:List T,cD M ts->(∀ m∈vTL ts,m<N)->cD N ts
 | [],_,_=>by rw [cD]; trivial
 | t::ts,h,hv=>by
  rw [cD] at h ⊢
  rw [vTL] at hv
  exact ⟨Kt t h.1 fun m hm=>hv m (List.mem_append_left _ hm),tK ts h.2 fun m hm=>hv m (List.mem_append_right _ hm)⟩
end
theorem Ei {cl:C} (h:bH cl=true):JH cl:=by
 obtain ⟨h1,h2,_⟩:=fl h
 have hU:cD 26 (cl.head::cl.body):=by rw [cD]; exact ⟨h1,oT h2⟩
 have hmem:=qr (cl.head::cl.body) [] hU
 have hb:=h
 rw [bH] at hb
 simp only [Bool.and_eq_true,decide_eq_true_eq,List.all_eq_true] at hb
 obtain ⟨hl,hgs,hvh,_⟩:=hb
 have hlt:∀ m∈vTL (cl.head::cl.body),m<26:=GF _ hU
 have hfr:∀ m∈vTL (cl.head::cl.body),m<(n3 cl).toNat:=by
  intro m hm
  have:=(BC (jI (cl.head::cl.body) []) 0).2 m ((hmem m).2 (.inr ⟨m,hm,rfl⟩))
  rw [n3]
  omega
 have hN:=tK _ hU hfr
 rw [cD] at hN
 have hwh:=oJ hvh
 have hwb:∀ t∈cl.body,wT t<=840:=fun t ht=>oJ (i3 (hgs t ht))
 have hvs:∀ x∈jI (cl.head::cl.body) [],0<=x/\x<26:=by
  intro x hx
  rcases (hmem x).1 hx with hx|⟨m,hm,rfl⟩
  ·cases hx
  ·have:=hlt m hm
   omega
 have hwl:∀ ts:List T,(∀ t∈ts,wT t<=840)->wL ts<=841 * ts.length:=by
  intro ts
  induction ts with
  | nil=>intro _; simp [wL]
  | cons t ts ih=>
   intro hh
   have a:=hh t (List.mem_cons_self ..)
   have b:=ih fun u hu=>hh u (List.mem_cons_of_mem _ hu)
   simp only [wL,List.length_cons]
   omega
 have:=hwl _ hwb
 refine ⟨⟨⟨hN.1,by omega⟩,fun t ht=>⟨iz hN.2 t ht,by have:=hwb t ht; omega⟩⟩,s8 hvh,fun t ht=>s8 (i3 (hgs t ht)),?_,hl,?_,fun x hx=>⟨(hvs x hx).1,by have:=(hvs x hx).2; omega⟩⟩
 ·exact AX 26 _ 0 (by omega) fun x hx=>(hvs x hx).2
 ·unfold wC; omega
structure okRk (k:Nat) (c:Ch):Prop where
 nb:c.binds.length<=26+26 * k
 nr:c.rest.length<=1+6 * k
 tab:tabM c.binds
 goal:okM c.goal
 rest:∀ g∈c.rest,okM g.1
 pos:0<c.binds.length
def okLp (N:Nat) (l:List Sp):Prop:=∀ x∈l,(okU N x.goal/\wT x.goal<=1048576)/\0<=x.body/\x.body<=6/\-1<=x.clause/\x.clause<=1000000
structure okXk (k:Nat) (s:Se):Prop where
 nb:s.st.binds.length<=26+26 * k
 ng:s.st.goals.length<=1+6 * k
 nc:s.st.chs.length<=k
 ns:s.steps.length<=k
 tab:tabM s.st.binds
 goals:∀ g∈s.st.goals,okM g.1
 chs:∀ c∈s.st.chs,okRk k c
 steps:okLp s.st.binds.length s.steps
 saved:∀ i (h:i<s.st.chs.length) (h':i<s.saved.length),okLp s.st.chs[i].binds.length s.saved[i]
 nv:∀ l∈s.saved,l.length<=k
 pos:0<s.st.binds.length
theorem okRk.up {k:Nat} {c:Ch} (h:okRk k c):okRk (k+1) c:=⟨by have:=h.nb; omega,by have:=h.nr; omega,h.tab,h.goal,h.rest,h.pos⟩
theorem okLp.mono {N M:Nat} {l:List Sp} (h:okLp N l) (hm:N<=M):okLp M l:=fun x hx=>⟨⟨fk hm _ (h x hx).1.1,(h x hx).1.2⟩,(h x hx).2⟩
theorem okXk.up {k:Nat} {s:Se} (h:okXk k s):okXk (k+1) s:=
 ⟨by have:=h.nb; omega,by have:=h.ng; omega,by have:=h.nc; omega,by have:=h.ns; omega,h.tab,h.goals,fun c hc=>(h.chs c hc).up,h.steps,h.saved,fun l hl=>by have:=h.nv l hl; omega,h.pos⟩
theorem FirstL.of {p:List C} {chs:List Ch} {c:Ch} {l:List Int} {o:Option (St6 × Int × List Int)} (h:FirstL p chs c l o):∀ s i r,o=some (s,i,r)->
  ∃ (n:Nat) (cl:C) (st:ah),i=n/\p[n]?=some cl/\s=mp chs c cl [] st/\Uni (KG c.binds cl) (.one c.goal (cH c.binds.length cl.head)) true st:=by
 induction h with
 | nil=>intro s i r h; cases h
 | miss _ _ ih=>exact ih
 | hit ht=>
  intro s i r h
  simp only [Option.some.injEq,Prod.mk.injEq] at h
  obtain ⟨rfl,rfl,rfl⟩:=h
  cases ht with
  | hit hi hu=>exact ⟨_,_,_,rfl,hi,rfl,hu⟩
  | miss _ _ h=>cases h
theorem TakeR.okXk {p:List C} (hp:∀ cl∈p,JH cl) (hpl:p.length<=1000000) {k:Nat} {s s':Se} {c:Ch} (h:TakeR p s c (some s')) (hc:mJ c) (hr:okRk k c) (hn:s.saved.length=s.st.chs.length)
  (hcs:∀ d∈s.st.chs,okRk k d) (hcn:s.st.chs.length<=k) (hst:okLp c.binds.length s.steps) (hsn:s.steps.length<=k)
  (hsv:∀ i (h:i<s.st.chs.length) (h':i<s.saved.length),okLp s.st.chs[i].binds.length s.saved[i]) (hsvn:∀ l∈s.saved,l.length<=k):okXk (k+1) s':=by
 cases h with
 | @yes u i l hF=>
  obtain ⟨n,cl,st,rfl,hi,rfl,hu⟩:=hF.of _ _ _ rfl
  have hm:=hp cl (List.mem_of_getElem? hi)
  obtain ⟨hg,_⟩:=hu.good (ut hc cl) (Dl hc hm.cf)
  have htab:tabM st:=hu.okM (hr.tab.grow _) ⟨hr.goal,lb _ _ hm.hd⟩
  have hlen:=hg.len
  have hfr:=hm.fr
  have hln:=hm.ln
  have hnb:=hr.nb
  have hnr:=hr.nr
  have hpos:=hr.pos
  have hrn:okRk (k+1) ⟨c.goal,c.rest,l,c.binds⟩:=okRk.up ⟨hnb,hnr,hr.tab,hr.goal,hr.rest,hpos⟩
  refine ⟨?_,?_,?_,?_,htab,?_,?_,?_,?_,?_,?_⟩
  ·simp only [jr,mp]; omega
  ·simp only [jr,mp,List.length_append,List.length_map]; omega
  ·simp only [jr,List.length_append]; split <;> simp <;> omega
  ·simp only [jr,List.length_append,List.length_singleton]; omega
  ·intro g hg
   simp only [jr,mp] at hg
   rcases List.mem_append.1 hg with hg|hg
   ·obtain ⟨t,ht,rfl⟩:=List.mem_map.1 hg
    exact lb _ _ (hm.bd t ht)
   ·exact hr.rest g hg
  ·intro d hd
   simp only [jr] at hd
   rcases List.mem_append.1 hd with hd|hd
   ·exact (hcs d hd).up
   ·split at hd
    ·cases hd
    ·rw [List.mem_singleton] at hd
     subst hd
     exact hrn
  ·intro x hx
   simp only [jr,mp] at hx ⊢
   rcases List.mem_append.1 hx with hx|hx
   ·exact hst.mono (by omega) x hx
   ·rw [List.mem_singleton] at hx
    subst hx
    simp only [Int.toNat_natCast,hi,Option.elim_some]
    exact ⟨⟨fk (by omega) _ hc.goal.1,hc.goal.2⟩,by omega,by omega,by omega,by have:=(List.getElem?_eq_some_iff.1 hi).1; omega⟩
  ·intro j h1 h2
   simp only [jr] at h1 h2 ⊢
   by_cases hl:l=[]
   ·subst hl
    simp only [if_pos,List.append_nil] at h1 h2 ⊢
    exact hsv j h1 h2
   ·simp only [if_neg hl,List.length_append,List.length_singleton] at h1 h2 ⊢
    by_cases hk:j<s.st.chs.length
    ·rw [List.getElem_append_left hk,List.getElem_append_left (by omega)]
     exact hsv j hk (by omega)
    ·have hk1:j=s.st.chs.length:=by omega
     subst hk1
     rw [List.getElem_append_right (Nat.le_refl _),List.getElem_append_right (by omega)]
     simp only [hn,Nat.sub_self,List.getElem_cons_zero]
     exact hst
  ·intro q hq
   simp only [jr] at hq
   rcases List.mem_append.1 hq with hq|hq
   ·have:=hsvn q hq; omega
   ·split at hq
    ·cases hq
    ·rw [List.mem_singleton] at hq
     subst hq
     omega
  ·simp only [jr,mp]; omega
def okBL (cs:List Ch) (ss:List (List Sp)):Prop:=∀ i (h:i<cs.length) (h':i<ss.length),okLp cs[i].binds.length ss[i]
theorem okBL.last {cs:List Ch} {ss:List (List Sp)} {c:Ch} {t:List Sp} (h:okBL (cs++[c]) (ss++[t])) (hl:cs.length=ss.length):okBL cs ss/\okLp c.binds.length t:=by
 constructor
 ·intro i h1 h2
  have:=h i (by simp; omega) (by simp; omega)
  rw [List.getElem_append_left h1,List.getElem_append_left h2] at this
  exact this
 ·have:=h cs.length (by simp) (by simp [hl])
  rw [List.getElem_append_right (Nat.le_refl _),List.getElem_append_right (by omega)] at this
  simp only [hl,Nat.sub_self,List.getElem_cons_zero] at this
  exact this
theorem BackR.okXk {p:List C} (hp:∀ cl∈p,JH cl) (hpl:p.length<=1000000) {k:Nat} {cs:List Ch} {ss:List (List Sp)} {o:Option Se} (h:BackR p cs ss o):cs.length=ss.length->(∀ c∈cs,mJ c/\okRk k c)->cs.length<=k->okBL cs ss->(∀ l∈ss,l.length<=k)->∀ s,o=some s->Go.Proofs.YtcpgagfdeflbkaaGreatDoor.okXk (k+1) s:=by
 induction h with
 | nil=>intro _ _ _ _ _ s h; cases h
 | hit ht=>
  intro hl hh hk hb hv s h
  simp only [List.length_append,List.length_singleton,Nat.add_right_cancel_iff] at hl hk
  rw [Option.some.injEq] at h
  subst h
  obtain ⟨h1,h2⟩:=hb.last hl
  exact ht.okXk hp hpl (hh _ (by simp)).1 (hh _ (by simp)).2 hl.symm (fun d hd=>(hh d (List.mem_append_left _ hd)).2) (by simp only; omega) h2 (hv _ (by simp)) h1 fun l hl=>hv l (List.mem_append_left _ hl)
 | miss _ _ ih=>
  intro hl hh hk hb hv
  simp only [List.length_append,List.length_singleton,Nat.add_right_cancel_iff] at hl hk
  exact ih hl (fun d hd=>hh d (List.mem_append_left _ hd)) (by omega) (hb.last hl).1 fun l hl=>hv l (List.mem_append_left _ hl)
theorem OneR.okXk {p:List C} (hp:∀ cl∈p,JH cl) (hpl:p.length<=1000000) {k:Nat} {s s':Se} {e:Int} (h:OneR p s s' e) (hs:uh p.length s) (hx:okXk k s):okXk (k+1) s'/\(e=-2->s'=s):=by
 have hgo:=hs.st.goals
 have hgm:=hx.goals
 cases h with
 | big=>exact ⟨hx.up,fun _=>rfl⟩
 | stuck=>exact ⟨hx.up,fun _=>rfl⟩
 | fail=>exact ⟨hx.up,fun _=>rfl⟩
 | err=>exact ⟨hx.up,fun _=>rfl⟩
 | @took g rest u _ hg hu hsm _ _ ht=>
  rw [hg] at hgo hgm
  have hou:=i9 hs.st.good hu (hgo _ (List.mem_cons_self ..)).1
  have hw:=fE hsm hou
  have hum:okM u:=Res.okM hx.tab hu (hgm _ (List.mem_cons_self ..))
  have hng:=hx.ng
  rw [hg,List.length_cons] at hng
  refine ⟨ht.okXk hp hpl ⟨hs.st.good,⟨hou,by simp only; omega⟩,fun x hx=>hgo x (List.mem_cons_of_mem _ hx)⟩ ⟨hx.nb,by simp only; omega,hx.tab,hum,fun x hx=>hgm x (List.mem_cons_of_mem _ hx),hx.pos⟩ hs.len hx.chs hx.nc hx.steps hx.ns hx.saved hx.nv,fun e=>(by cases e)⟩
 | @solved g rest u st hg hu hsm _ hb hB=>
  rw [hg] at hgo hgm
  have hou:=i9 hs.st.good hu (hgo _ (List.mem_cons_self ..)).1
  have hw:=fE hsm hou
  have hum:okM u:=Res.okM hx.tab hu (hgm _ (List.mem_cons_self ..))
  have hgd:=hB.good hs.st.good hb ⟨hou,by omega⟩
  have hl:=hgd.len
  have hng:=hx.ng
  rw [hg,List.length_cons] at hng
  have hnb:=hx.nb
  have hns:=hx.ns
  have hpos:=hx.pos
  refine ⟨⟨by simp only; omega,by simp only; omega,by have:=hx.nc; simp only; omega,by simp only [List.length_append,List.length_singleton]; omega,hB.okM hx.tab hum,fun x h=>hgm x (List.mem_cons_of_mem _ h),fun c hc=>(hx.chs c hc).up,?_,hx.saved,fun l hl=>by have:=hx.nv l hl; omega,by simp only; omega⟩,fun e=>(by cases e)⟩
  intro x h
  simp only at h ⊢
  rw [hl]
  rcases List.mem_append.1 h with h|h
  ·exact hx.steps x h
  ·rw [List.mem_singleton] at h
   subst h
   exact ⟨⟨hou,by simp only; omega⟩,by simp,by simp,by simp,by simp⟩
theorem Srch.okXk {p:List C} (hp:∀ cl∈p,JH cl) (hpl:p.length<=1000000) {n:Nat} {s:Se} {o:Option Se} (h:Srch p n s o):∀ k,uh p.length s->Go.Proofs.YtcpgagfdeflbkaaGreatDoor.okXk k s->∀ t,o=some t->Go.Proofs.YtcpgagfdeflbkaaGreatDoor.okXk (k+n) t:=by
 induction h with
 | @done n s hg=>
  intro k h1 h2 t h
  rw [Option.some.injEq] at h
  subst h
  induction n with
  | zero=>exact h2
  | succ n ih=>exact ih.up
 | out=>intro _ _ _ t h; cases h
 | halt=>intro _ _ _ t h; cases h
 | stop=>intro _ _ _ t h; cases h
 | @step n _ _ _ hg h1 _ ih=>
  intro k hs hx t h
  have:=ih (k+1) (h1.ok (fun cl hc=>(hp cl hc).cf) hs) (h1.okXk hp hpl hs hx).1 t h
  rwa [show k+(n+1)=k+1+n by omega]
 | @back n _ s' _ _ hg h1 h2 _ ih=>
  intro k hs hx t h
  have hs':=h1.ok (fun cl hc=>(hp cl hc).cf) hs
  have e:=(h1.okXk hp hpl hs hx).2 rfl
  subst e
  have:=ih (k+1) (h2.ok (fun cl hc=>(hp cl hc).cf) hs.len.symm hs.st.chs hs.left _ rfl) (h2.okXk hp hpl hs.len.symm (fun c hc=>⟨hs.st.chs c hc,hx.chs c hc⟩) hx.nc hx.saved hx.nv _ rfl) t h
  rwa [show k+(n+1)=k+1+n by omega]
end
section
open Go Go.RowKit
structure GI where
 t:T
 cut:Int
 up:Int
structure CI where
 goal:T
 node:Int
 rest:List GI
 left:List Int
 binds:ah
 taken:Nat
structure NI where
 goal:T
 up:Int
 clause:Int
structure SI where
 st:ah
 goals:List GI
 chs:List CI
 nodes:List NI
def g26 (st:ah):ah:=st++List.replicate 26 none
def bA (st:ah) (n:Nat):ah:=st++List.replicate (n - st.length) none
theorem lF (st:ah):(g26 st).length=st.length+26:=by simp [g26]
theorem cW {st:ah} {n:Nat} (h:st.length<=n):(bA st n).length=n:=by simp [bA]; omega
theorem yd {st:ah} {n:Nat} (h:st.length<=n):g26 (bA st n)=bA st (n+26):=by
 unfold g26 bA
 rw [List.append_assoc,List.replicate_append_replicate]
 congr 2
 omega
theorem jA (st:ah):bA st st.length=st:=by simp [bA]
theorem HG (st:ah):g26 st=bA st (st.length+26):=by
 rw [<- yd (Nat.le_refl _),jA]
structure HI where
 i:Nat
 cl:C
 by_:Nat
 l:List Int
 st:ah
inductive TryI (p:List C) (g:T):List Int->ah->Option HI->Nat->Prop
 | nil {st:ah}:TryI p g [] st none st.length
 | hit {i:Nat} {l:List Int} {cl:C} {st st':ah}:p[i]?=some cl->Uni (g26 st) (.one g (cH st.length cl.head)) true st'->TryI p g ((i:Int)::l) st (some ⟨i,cl,st.length,l,st'⟩) (st.length+26)
 | miss {i:Nat} {l:List Int} {cl:C} {st st':ah} {o:Option HI} {n:Nat}:p[i]?=some cl->Uni (g26 st) (.one g (cH st.length cl.head)) false st'->TryI p g l (g26 st) o n->TryI p g ((i:Int)::l) st o n
def pr (cl:C) (by_:Nat) (cut up:Int) (rest:List GI):List GI:=cl.body.map (fun t=>⟨cH by_ t,cut,up⟩)++rest
def Da (ns:List NI) (at_:Nat) (i:Int):List NI:=ns.modify at_ fun x=>⟨x.goal,x.up,i⟩
def iH (chs:List CI) (nodes:List NI) (g:T) (at_:Int) (rest:List GI) (b:ah) (r:HI):SI:=
 ⟨r.st,pr r.cl r.by_ chs.length at_ rest,chs++(if r.l=[] then [] else [⟨g,at_,rest,r.l,b,nodes.length⟩]),Da nodes at_.toNat r.i⟩
inductive BackI (p:List C):List CI->Nat->List NI->Option SI->Prop
 | nil {n:Nat} {ns:List NI}:BackI p [] n ns none
 | hit {cs:List CI} {c:CI} {n m:Nat} {ns:List NI} {r:HI}:TryI p c.goal c.left (bA c.binds n) (some r) m->BackI p (cs++[c]) n ns (some (iH cs (ns.take c.taken) c.goal c.node c.rest (bA c.binds n) r))
 | miss {cs:List CI} {c:CI} {n m:Nat} {ns:List NI} {o:Option SI}:TryI p c.goal c.left (bA c.binds n) none m->BackI p cs m (ns.take c.taken) o->BackI p (cs++[c]) n ns o
def IA (c:Int):Int:=if c=2 then 4 else if c=3 then 5 else if c=4 then 6 else 7
inductive StepI (p:List C) (nc:Bool) (s:SI):Option SI->Int->Prop
 | large {g:GI} {gs:List GI} {t:T}:s.goals=g::gs->Res s.st (.one g.t t)->bB t=false->StepI p nc s none 3
 | noCut {g:GI} {gs:List GI} {t:T}:s.goals=g::gs->Res s.st (.one g.t t)->bB t=true->fC t=true->nc=true->StepI p nc s none 0
 | cut {g:GI} {gs:List GI} {t:T}:s.goals=g::gs->Res s.st (.one g.t t)->bB t=true->fC t=true->nc=false->
   StepI p nc s (some ⟨s.st,gs,s.chs.take g.cut.toNat,s.nodes++[⟨t,g.up,-1⟩]⟩) (-1)
 | solved {g:GI} {gs:List GI} {t:T} {st:ah}:s.goals=g::gs->Res s.st (.one g.t t)->bB t=true->fC t=false->cn t=true->Blt s.st t 0 st->
   StepI p nc s (some ⟨st,gs,s.chs,s.nodes++[⟨t,g.up,-1⟩]⟩) (-1)
 | fail {g:GI} {gs:List GI} {t:T} {st:ah} {o:Option SI}:s.goals=g::gs->Res s.st (.one g.t t)->bB t=true->fC t=false->cn t=true->Blt s.st t 1 st->
   BackI p s.chs s.st.length (s.nodes++[⟨t,g.up,-1⟩]) o->StepI p nc s o (if o.isSome then -1 else 0)
 | err {g:GI} {gs:List GI} {t:T} {st:ah} {c:Int}:s.goals=g::gs->Res s.st (.one g.t t)->bB t=true->fC t=false->cn t=true->Blt s.st t c st->c≠0->c≠1->StepI p nc s none (IA c)
 | unknown {g:GI} {gs:List GI} {t:T}:s.goals=g::gs->Res s.st (.one g.t t)->bB t=true->fC t=false->cn t=false->fX p t=[]->StepI p nc s none 8
 | took {g:GI} {gs:List GI} {t:T} {r:HI} {m:Nat}:s.goals=g::gs->Res s.st (.one g.t t)->bB t=true->fC t=false->cn t=false->fX p t≠[]->
   TryI p t (fX p t) s.st (some r) m->StepI p nc s (some (iH s.chs (s.nodes++[⟨t,g.up,-1⟩]) t s.nodes.length gs s.st r)) (-1)
 | back {g:GI} {gs:List GI} {t:T} {m:Nat} {o:Option SI}:s.goals=g::gs->Res s.st (.one g.t t)->bB t=true->fC t=false->cn t=false->fX p t≠[]->
   TryI p t (fX p t) s.st none m->BackI p s.chs m (s.nodes++[⟨t,g.up,-1⟩]) o->StepI p nc s o (if o.isSome then -1 else 0)
def LY (n:Int):T:=.mk 1 n emptyB []
def ValsI (st:ah) (vars:List Int) (o:Option (List T)):Prop:=∃ us,Res st (.list (vars.map LY) us)/\
 o=if us.all bB=true/\(dp us []).length<=26 then some (gD (dp us []) us) else none
inductive RunI (p:List C) (vars:List Int) (most:Nat):Nat->SI->List (List T)->List (List T) × Int->Prop
 | fuel {s:SI} {out:List (List T)}:s.goals≠[]->RunI p vars most 0 s out (out,2)
 | stop {n:Nat} {s:SI} {out:List (List T)} {e:Int}:s.goals≠[]->StepI p false s none e->RunI p vars most (n+1) s out (out,e)
 | step {n:Nat} {s s':SI} {out:List (List T)} {e:Int} {r:List (List T) × Int}:s.goals≠[]->StepI p false s (some s') e->RunI p vars most n s' out r->RunI p vars most (n+1) s out r
 | more {n:Nat} {s:SI} {out:List (List T)}:s.goals=[]->out.length=most->RunI p vars most n s out (out,1)
 | large {n:Nat} {s:SI} {out:List (List T)}:s.goals=[]->out.length≠most->ValsI s.st vars none->RunI p vars most n s out (out,3)
 | last {n:Nat} {s:SI} {out:List (List T)} {vs:List T}:s.goals=[]->out.length≠most->ValsI s.st vars (some vs)->BackI p s.chs s.st.length s.nodes none->RunI p vars most n s out (out++[vs],0)
 | next {n:Nat} {s s':SI} {out:List (List T)} {vs:List T} {r:List (List T) × Int}:s.goals=[]->out.length≠most->ValsI s.st vars (some vs)->BackI p s.chs s.st.length s.nodes (some s')->RunI p vars most n s' (out++[vs]) r->RunI p vars most n s out r
structure mI (cl:C):Prop where
 head:(okU 26 cl.head/\wT cl.head<=1048576)/\okM cl.head
 body:∀ t∈cl.body,(okU 26 t/\wT t<=1048576)/\okM t
def okGI (N:Nat) (g:GI):Prop:=((okU N g.t/\wT g.t<=1048576)/\okM g.t)/\0<=g.cut
def cutsG (gs:List GI):Prop:=gs.Pairwise fun a b=>b.cut<=a.cut
structure okCI (m:Nat) (k:Nat) (c:CI):Prop where
 good:Good c.binds.length c.binds
 tab:tabM c.binds
 goal:(okU c.binds.length c.goal/\wT c.goal<=1048576)/\okM c.goal
 rest:∀ g∈c.rest,okGI c.binds.length g/\g.cut<=k
 cuts:cutsG c.rest
 left:∀ i∈c.left,0<=i/\i<m
 node:0<=c.node/\c.node<c.taken
structure okCs (m n k:Nat) (cs:List CI):Prop where
 at_:∀ i (h:i<cs.length),okCI m i cs[i]/\cs[i].binds.length<=n/\cs[i].taken<=k
 srt:cs.Pairwise fun a b=>a.taken<=b.taken
structure tY (m:Nat) (s:SI):Prop where
 good:Good s.st.length s.st
 tab:tabM s.st
 goals:∀ g∈s.goals,okGI s.st.length g/\g.cut<=s.chs.length
 cuts:cutsG s.goals
 chs:okCs m s.st.length s.nodes.length s.chs
def eL:List CI->Nat
 | []=>0
 | c::cs=>c.left.length+eL cs
theorem nh:∀ a b:List CI,eL (a++b)=eL a+eL b
 | [],b=>by simp [eL]
 | x::a,b=>by rw [List.cons_append,eL,eL,nh a b,Nat.add_assoc]
theorem AW:∀ (a:List CI) (k:Nat),eL (a.take k)<=eL a
 | [],k=>by simp [eL]
 | x::a,0=>by simp [eL]
 | x::a,k+1=>by
  have:=AW a k
  rw [List.take_succ_cons,eL,eL]
  omega
theorem okCs.nil (m n k:Nat):okCs m n k []:=⟨fun i h=>by simp at h,List.Pairwise.nil⟩
theorem okCs.snoc {m n k:Nat} {cs:List CI} {c:CI} (h:okCs m n k cs) (hc:okCI m cs.length c/\c.binds.length<=n/\c.taken=k):okCs m n k (cs++[c]):=by
 refine ⟨fun i hi=>?_,?_⟩
 ·rw [List.length_append,List.length_cons,List.length_nil] at hi
  by_cases hic:i<cs.length
  ·rw [List.getElem_append_left hic]; exact h.at_ i hic
  ·obtain rfl:i=cs.length:=by omega
   rw [List.getElem_append_right (Nat.le_refl _)]
   simp only [Nat.sub_self,List.getElem_cons_zero]
   exact ⟨hc.1,hc.2.1,Nat.le_of_eq hc.2.2⟩
 ·rw [List.pairwise_append]
  refine ⟨h.srt,List.pairwise_singleton _ _,fun a ha b hb=>?_⟩
  simp only [List.mem_singleton] at hb
  subst hb
  obtain ⟨i,hi,rfl⟩:=List.getElem_of_mem ha
  rw [hc.2.2]
  exact (h.at_ i hi).2.2
theorem okCs.last {m n k:Nat} {cs:List CI} {c:CI} (h:okCs m n k (cs++[c])):okCs m n c.taken cs/\okCI m cs.length c/\c.binds.length<=n/\c.taken<=k:=by
 have hs:=h.srt
 rw [List.pairwise_append] at hs
 refine ⟨⟨fun i hi=>?_,hs.1⟩,?_⟩
 ·have:=h.at_ i (by rw [List.length_append]; omega)
  rw [List.getElem_append_left hi] at this
  exact ⟨this.1,this.2.1,hs.2.2 _ (List.getElem_mem hi) c (by simp)⟩
 ·have:=h.at_ cs.length (by rw [List.length_append]; simp)
  rw [List.getElem_append_right (Nat.le_refl _)] at this
  simpa using this
theorem okCs.mono {m n k n' k':Nat} {cs:List CI} (h:okCs m n k cs) (hn:n<=n') (hk:k<=k'):okCs m n' k' cs:=⟨fun i hi=>⟨(h.at_ i hi).1,Nat.le_trans (h.at_ i hi).2.1 hn,Nat.le_trans (h.at_ i hi).2.2 hk⟩,h.srt⟩
theorem okCs.take {m n k:Nat} {cs:List CI} (h:okCs m n k cs) (j:Nat):okCs m n k (cs.take j):=⟨fun i hi=>by
 rw [List.length_take] at hi
 rw [List.getElem_take]
 exact h.at_ i (by omega),h.srt.sublist (List.take_sublist _ _)⟩
theorem Good.g26 {st:ah} (h:Good st.length st):Good (st.length+26) (g26 st):=h.grow 26
theorem tabM.g26 {st:ah} (h:tabM st):tabM (g26 st):=h.grow 26
theorem Good.to {st:ah} (h:Good st.length st) {n:Nat} (hn:st.length<=n):Good n (bA st n):=by
 have:=h.grow (n - st.length)
 rwa [show st.length+(n - st.length)=n by omega] at this
theorem tabM.to {st:ah} (h:tabM st) (n:Nat):tabM (bA st n):=h.grow _
theorem Lk {st:ah} {g:T} {cl:C} (hg:okU st.length g/\wT g<=1048576) (hcl:mI cl):okJ (st.length+26) (.one g (cH st.length cl.head)):=by
 refine ⟨⟨fk (Nat.le_add_right ..) _ hg.1,hg.2⟩,?_,?_⟩
 ·have:=ia st.length cl.head hcl.head.1.1
  rwa [Nat.add_comm] at this
 ·rw [ku]; exact hcl.head.1.2
theorem TryI.ex {p:List C} (hp:∀ cl∈p,mI cl) {g:T}:∀ (l:List Int) (st:ah),Good st.length st->(okU st.length g/\wT g<=1048576)->(∀ i∈l,0<=i/\i<p.length)->∃ o n,TryI p g l st o n
 | [],st,_,_,_=>⟨none,_,.nil⟩
 | i::l,st,hg,ho,hl=>by
  obtain ⟨h0,h1⟩:=hl i (List.mem_cons_self ..)
  obtain ⟨j,rfl⟩:∃ j:Nat,i=j:=⟨i.toNat,by omega⟩
  have hj:j<p.length:=by omega
  have hgj:p[j]?=some p[j]:=List.getElem?_eq_getElem hj
  have hcl:=hp _ (List.getElem_mem hj)
  obtain ⟨r,st',hu⟩:=xC _ _ hg.g26 (Nat.le_refl _) _ (Lk ho hcl)
  cases r with
  | true=>exact ⟨_,_,.hit hgj hu⟩
  | false=>
   have hlen:=lF st
   obtain ⟨o,n,ht⟩:=TryI.ex hp l (g26 st) (by rw [hlen]; exact hg.g26) (by rw [hlen]; exact ⟨fk (Nat.le_add_right ..) _ ho.1,ho.2⟩) fun i hi=>hl i (List.mem_cons_of_mem _ hi)
   exact ⟨o,n,.miss hgj hu ht⟩
theorem TryI.ok {p:List C} (hp:∀ cl∈p,mI cl) {g:T} {l:List Int} {st:ah} {o:Option HI} {n:Nat} (h:TryI p g l st o n):Good st.length st->tabM st->((okU st.length g/\wT g<=1048576)/\okM g)->
  st.length<=n/\(o=none->n=st.length+26 * l.length)/\∀ r,o=some r->r.cl∈p/\p[r.i]?=some r.cl/\st.length<=r.by_/\r.st.length=r.by_+26/\n=r.by_+26/\Good n r.st/\tabM r.st/\n+26 * r.l.length<=st.length+26 * l.length/\(∀ i∈r.l,i∈l):=by
 induction h with
 | nil=>intro _ _ _; exact ⟨Nat.le_refl _,fun _=>by simp,fun r hr=>by cases hr⟩
 | @hit i l cl st st' hi hu=>
  intro hg ht ho
  have hcl:=hp _ (List.mem_of_getElem? hi)
  obtain ⟨hg',_⟩:=hu.good hg.g26 (Lk ho.1 hcl)
  have ht':=hu.okM ht.g26 ⟨ho.2,lb _ _ hcl.head.2⟩
  refine ⟨by omega,(fun h=>by cases h),fun r hr=>?_⟩
  simp only [Option.some.injEq] at hr
  subst hr
  refine ⟨List.mem_of_getElem? hi,hi,Nat.le_refl _,hg'.len,rfl,hg',ht',?_,fun i hi=>List.mem_cons_of_mem _ hi⟩
  simp only [List.length_cons]
  omega
 | @miss i l cl st st' o n hi hu _ ih=>
  intro hg ht ho
  have hlen:=lF st
  obtain ⟨h1,h2,h3⟩:=ih (by rw [hlen]; exact hg.g26) ht.g26 ⟨by rw [hlen]; exact ⟨fk (Nat.le_add_right ..) _ ho.1.1,ho.1.2⟩,ho.2⟩
  rw [hlen] at h1 h2 h3
  refine ⟨by omega,fun h=>by rw [h2 h,List.length_cons]; omega,fun r hr=>?_⟩
  obtain ⟨a1,a2,a3,a4,a5,a6,a7,a8,a9⟩:=h3 r hr
  exact ⟨a1,a2,by omega,a4,a5,a6,a7,by rw [List.length_cons]; omega,fun i hi=>List.mem_cons_of_mem _ (a9 i hi)⟩
end
section
open Go Go.RowKit
theorem rn (ns:List NI) (a:Nat) (i:Int):(Da ns a i).length=ns.length:=by simp [Da]
theorem cutsG.body {cl:C} {b:Nat} {k u:Int} {rest:List GI} (h:cutsG rest) (hr:∀ g∈rest,g.cut<=k):cutsG (pr cl b k u rest):=by
 unfold pr cutsG
 rw [List.pairwise_append]
 refine ⟨?_,h,fun a ha b hb=>?_⟩
 ·rw [List.pairwise_map]
  exact List.pairwise_iff_forall_sublist.2 fun _=>Int.le_refl _
 ·obtain ⟨t,_,rfl⟩:=List.mem_map.1 ha
  exact hr b hb
theorem okGI.mono {N M:Nat} (h:N<=M) {g:GI} (hg:okGI N g):okGI M g:=⟨⟨⟨fk h _ hg.1.1.1,hg.1.1.2⟩,hg.1.2⟩,hg.2⟩
theorem Ih {p:List C} (hp:∀ cl∈p,mI cl) {m:Nat} (hm:m=p.length) {g:T} {l:List Int} {b:ah} {r:HI} {n:Nat} (h:TryI p g l b (some r) n) (hg:Good b.length b) (ht:tabM b) (ho:(okU b.length g/\wT g<=1048576)/\okM g)
  {cs:List CI} {ns:List NI} {at_:Int} {rest:List GI} (hl:∀ i∈l,0<=i/\i<p.length) (hat:0<=at_/\at_<ns.length) (hr:∀ g∈rest,okGI b.length g/\g.cut<=cs.length) (hcu:cutsG rest) (hcs:okCs m b.length ns.length cs) :
  tY m (iH cs ns g at_ rest b r)/\(iH cs ns g at_ rest b r).st.length+26 * eL (iH cs ns g at_ rest b r).chs<=b.length+26 * l.length+26 * eL cs/\(iH cs ns g at_ rest b r).nodes.length=ns.length/\b.length<=(iH cs ns g at_ rest b r).st.length:=by
 subst hm
 obtain ⟨h1,_,h3⟩:=h.ok hp hg ht ho
 obtain ⟨a1,a2,a3,a4,a5,a6,a7,a8,a9⟩:=h3 r rfl
 have hcl:=hp _ a1
 have hlen:r.st.length=n:=by omega
 have hchs:okCs p.length n ns.length (cs++(if r.l=[] then [] else [⟨g,at_,rest,r.l,b,ns.length⟩])):=by
  have h0:=hcs.mono (n':=n) (k':=ns.length) h1 (Nat.le_refl _)
  split
  ·rwa [List.append_nil]
  ·exact h0.snoc ⟨⟨hg,ht,ho,hr,hcu,fun i hi=>hl i (a9 i hi),hat⟩,h1,rfl⟩
 have hlc:cs.length<=(cs++(if r.l=[] then [] else [(⟨g,at_,rest,r.l,b,ns.length⟩:CI)])).length:=by rw [List.length_append]; omega
 refine ⟨⟨?_,a7,?_,hcu.body fun g hg=>(hr g hg).2,?_⟩,?_,rn _ _ _,by show b.length<=r.st.length; omega⟩
 ·show Good r.st.length r.st
  rw [hlen]; exact a6
 ·intro x hx
  have hx':x∈pr r.cl r.by_ cs.length at_ rest:=hx
  show okGI r.st.length x/\x.cut<=((cs++(if r.l=[] then [] else [(⟨g,at_,rest,r.l,b,ns.length⟩:CI)])).length:Int)
  unfold pr at hx'
  rcases List.mem_append.1 hx' with hx'|hx'
  ·obtain ⟨t,ht',rfl⟩:=List.mem_map.1 hx'
   obtain ⟨⟨q1,q2⟩,q3⟩:=hcl.body t ht'
   refine ⟨⟨⟨⟨?_,?_⟩,lb _ _ q3⟩,by simp only; omega⟩,by simp only; omega⟩
   ·have:=ia r.by_ t q1
    rw [Nat.add_comm] at this
    rw [a4]; exact this
   ·simp only [ku]; exact q2
  ·obtain ⟨q1,q2⟩:=hr x hx'
   exact ⟨q1.mono (by omega),by omega⟩
 ·show okCs p.length r.st.length (Da ns at_.toNat r.i).length (cs++(if r.l=[] then [] else [⟨g,at_,rest,r.l,b,ns.length⟩]))
  rw [hlen,rn]; exact hchs
 ·show r.st.length+26 * eL (cs++(if r.l=[] then [] else [(⟨g,at_,rest,r.l,b,ns.length⟩:CI)]))<=_
  rw [nh]
  split
  ·simp only [eL]; omega
  ·simp only [eL]; omega
theorem okCI.grow {m k n:Nat} {c:CI} (h:okCI m k c) (hn:c.binds.length<=n):Good (bA c.binds n).length (bA c.binds n)/\tabM (bA c.binds n)/\((okU (bA c.binds n).length c.goal/\wT c.goal<=1048576)/\okM c.goal)/\
  ∀ g∈c.rest,okGI (bA c.binds n).length g/\g.cut<=k:=by
 rw [cW hn]
 exact ⟨h.good.to hn,h.tab.to n,⟨⟨fk hn _ h.goal.1.1,h.goal.1.2⟩,h.goal.2⟩,fun g hg=>⟨(h.rest g hg).1.mono hn,(h.rest g hg).2⟩⟩
theorem BackI.ex {p:List C} (hp:∀ cl∈p,mI cl):∀ (L:Nat) (cs:List CI) (n:Nat) (ns:List NI),cs.length=L->okCs p.length n ns.length cs->∃ o,BackI p cs n ns o
 | 0,cs,n,ns,hL,_=>by
  obtain rfl:=List.eq_nil_of_length_eq_zero hL
  exact ⟨none,.nil⟩
 | L+1,cs,n,ns,hL,hcs=>by
  obtain ⟨init,c,rfl⟩:∃ init c,cs=init++[c]:=⟨cs.dropLast,cs.getLast (by intro e; rw [e] at hL; simp at hL),(List.dropLast_concat_getLast _).symm⟩
  rw [List.length_append,List.length_cons,List.length_nil] at hL
  obtain ⟨h1,h2,h3,h4⟩:=hcs.last
  obtain ⟨g1,g2,g3,g4⟩:=h2.grow h3
  obtain ⟨o,m,ht⟩:=TryI.ex hp c.left (bA c.binds n) g1 g3.1 h2.left
  cases o with
  | some r=>exact ⟨_,.hit ht⟩
  | none=>
   obtain ⟨k1,_,_⟩:=ht.ok hp g1 g2 g3
   rw [cW h3] at k1
   obtain ⟨o,ho⟩:=BackI.ex hp L init m (ns.take c.taken) (by omega) (h1.mono k1 (by rw [List.length_take]; omega))
   exact ⟨o,.miss ht ho⟩
theorem BackI.ok {p:List C} (hp:∀ cl∈p,mI cl) {cs:List CI} {n:Nat} {ns:List NI} {o:Option SI} (h:BackI p cs n ns o):okCs p.length n ns.length cs->∀ s,o=some s->tY p.length s/\s.st.length+26 * eL s.chs<=n+26 * eL cs/\s.nodes.length<=ns.length/\n<=s.st.length:=by
 induction h with
 | nil=>intro _ s hs; cases hs
 | @hit cs c n m ns r ht=>
  intro hcs s hs
  simp only [Option.some.injEq] at hs
  subst hs
  obtain ⟨h1,h2,h3,h4⟩:=hcs.last
  obtain ⟨g1,g2,g3,g4⟩:=h2.grow h3
  have hlt:(ns.take c.taken).length=c.taken:=by rw [List.length_take]; omega
  have hl:=cW h3
  obtain ⟨q1,q2,q3,q4⟩:=Ih hp rfl ht g1 g2 g3 (cs:=cs) (ns:=ns.take c.taken) (at_:=c.node) (rest:=c.rest) h2.left (by rw [hlt]; exact h2.node) g4 h2.cuts (by rw [hlt,hl]; exact h1)
  rw [hl] at q2 q4
  refine ⟨q1,?_,by rw [q3,List.length_take]; omega,q4⟩
  rw [nh,eL,eL]
  omega
 | @miss cs c n m ns o ht _ ih=>
  intro hcs s hs
  obtain ⟨h1,h2,h3,h4⟩:=hcs.last
  obtain ⟨g1,g2,g3,g4⟩:=h2.grow h3
  obtain ⟨k1,k2,_⟩:=ht.ok hp g1 g2 g3
  have hl:=cW h3
  have k2:=k2 rfl
  rw [hl] at k1 k2
  have hlt:(ns.take c.taken).length=c.taken:=by rw [List.length_take]; omega
  obtain ⟨q1,q2,q3,q4⟩:=ih (by rw [hlt]; exact h1.mono k1 (Nat.le_refl _)) s hs
  refine ⟨q1,?_,by rw [List.length_take] at q3; omega,by omega⟩
  rw [nh,eL,eL]
  omega
theorem qx {N:Nat} {st:ah} (hg:Good N st) {t u:T} (ht:(okU N t/\wT t<=1048576)/\okM t) (hm:tabM st) (hu:Res st (.one t u)):okU N u/\okM u:=⟨i9 hg hu ht.1.1,hu.okM hm ht.2⟩
theorem fq {m n:Nat} {ns:List NI} {cs:List CI} (h:okCs m n ns.length cs) (x:NI):okCs m n (ns++[x]).length cs:=h.mono (Nat.le_refl _) (by simp)
theorem StepI.ex {p:List C} (hp:∀ cl∈p,mI cl) (nc:Bool) {s:SI} (hs:tY p.length s) (hg:s.goals≠[]):∃ o e,StepI p nc s o e:=by
 obtain ⟨g,gs,hgs⟩:∃ g gs,s.goals=g::gs:=by
  cases h:s.goals with
  | nil=>exact absurd h hg
  | cons g gs=>exact ⟨g,gs,rfl⟩
 have hgo:=hs.goals
 rw [hgs] at hgo
 have hg1:=hgo g (List.mem_cons_self ..)
 obtain ⟨t,ht⟩:=Lu hs.good g.t hg1.1.1.1.1
 obtain ⟨hut,hmt⟩:=qx hs.good hg1.1.1 hs.tab ht
 cases hsm:bB t with
 | false=>exact ⟨_,_,.large hgs ht hsm⟩
 | true=>
  have hw:=fE hsm hut
  cases hc:fC t with
  | true=>
   cases nc with
   | true=>exact ⟨_,_,.noCut hgs ht hsm hc rfl⟩
   | false=>exact ⟨_,_,.cut hgs ht hsm hc rfl⟩
  | false=>
   have hns:=fq hs.chs ⟨t,g.up,-1⟩
   cases hb:cn t with
   | true=>
    obtain ⟨c,st,hB⟩:=Blt.ex hs.good hb ⟨hut,by omega⟩
    by_cases h0:c=0
    ·subst h0; exact ⟨_,_,.solved hgs ht hsm hc hb hB⟩
    by_cases h1:c=1
    ·subst h1
     obtain ⟨o,ho⟩:=BackI.ex hp _ s.chs s.st.length (s.nodes++[(⟨t,g.up,-1⟩:NI)]) rfl hns
     exact ⟨_,_,.fail hgs ht hsm hc hb hB ho⟩
    ·exact ⟨_,_,.err hgs ht hsm hc hb hB h0 h1⟩
   | false=>
    by_cases hf:fX p t=[]
    ·exact ⟨_,_,.unknown hgs ht hsm hc hb hf⟩
    obtain ⟨o,m,hT⟩:=TryI.ex hp (fX p t) s.st hs.good ⟨hut,by omega⟩ (lE p t)
    cases o with
    | some r=>exact ⟨_,_,.took hgs ht hsm hc hb hf hT⟩
    | none=>
     obtain ⟨k1,_,_⟩:=hT.ok hp hs.good hs.tab ⟨⟨hut,by omega⟩,hmt⟩
     obtain ⟨o,ho⟩:=BackI.ex hp _ s.chs m (s.nodes++[(⟨t,g.up,-1⟩:NI)]) rfl (hns.mono k1 (Nat.le_refl _))
     exact ⟨_,_,.back hgs ht hsm hc hb hf hT ho⟩
theorem StepI.ok {p:List C} (hp:∀ cl∈p,mI cl) {nc:Bool} {s:SI} {o:Option SI} {e:Int} (h:StepI p nc s o e) (hs:tY p.length s):∀ s',o=some s'->tY p.length s'/\s'.st.length+26 * eL s'.chs<=s.st.length+26 * eL s.chs+26 * p.length/\s'.nodes.length<=s.nodes.length+1/\e=-1/\s.st.length<=s'.st.length:=by
 have hgood:=hs.good
 cases h with
 | large=>intro s' h; cases h
 | noCut=>intro s' h; cases h
 | err=>intro s' h; cases h
 | unknown=>intro s' h; cases h
 | @cut g gs t hgs ht hsm hc hnc=>
  intro s' h
  simp only [Option.some.injEq] at h
  subst h
  have hgo:=hs.goals
  have hcu:=hs.cuts
  rw [hgs] at hgo hcu
  have hg1:=hgo g (List.mem_cons_self ..)
  have hcut:=hg1.1.2
  have hle:=hg1.2
  rw [cutsG,List.pairwise_cons] at hcu
  have hlt:(s.chs.take g.cut.toNat).length=g.cut.toNat:=by rw [List.length_take]; omega
  refine ⟨⟨hs.good,hs.tab,fun x hx=>⟨(hgo x (List.mem_cons_of_mem _ hx)).1,?_⟩,hcu.2,(fq hs.chs _).take _⟩,?_,by simp,rfl,Nat.le_refl _⟩
  ·have:=hcu.1 x hx
   show x.cut<=((s.chs.take g.cut.toNat).length:Int)
   rw [hlt]; omega
  ·have:=AW s.chs g.cut.toNat
   show s.st.length+26 * eL (s.chs.take g.cut.toNat)<=_
   omega
 | @solved g gs t st hgs ht hsm hc hb hB=>
  intro s' h
  simp only [Option.some.injEq] at h
  subst h
  have hgo:=hs.goals
  have hcu:=hs.cuts
  rw [hgs] at hgo hcu
  have hg1:=hgo g (List.mem_cons_self ..)
  obtain ⟨hut,hmt⟩:=qx hs.good hg1.1.1 hs.tab ht
  have hw:=fE hsm hut
  have hgd:=hB.good hs.good hb ⟨hut,by omega⟩
  have htb:=hB.okM hs.tab hmt
  have hlen:=hgd.len
  rw [cutsG,List.pairwise_cons] at hcu
  refine ⟨⟨by show Good st.length st; rw [hlen]; exact hgd,htb,fun x hx=>?_,hcu.2,?_⟩,?_,by simp,rfl,Nat.le_of_eq hlen.symm⟩
  ·show okGI st.length x/\_
   rw [hlen]
   exact hgo x (List.mem_cons_of_mem _ hx)
  ·show okCs p.length st.length (s.nodes++[(⟨t,g.up,-1⟩:NI)]).length s.chs
   rw [hlen]; exact fq hs.chs _
  ·show st.length+26 * eL s.chs<=_
   omega
 | @fail g gs t st o hgs ht hsm hc hb hB ho=>
  intro s' h
  subst h
  obtain ⟨q1,q2,q3,q4⟩:=ho.ok hp (fq hs.chs _) s' rfl
  rw [List.length_append] at q3
  exact ⟨q1,by omega,by simpa using q3,rfl,q4⟩
 | @took g gs t r m hgs ht hsm hc hb hf hT=>
  intro s' h
  simp only [Option.some.injEq] at h
  subst h
  have hgo:=hs.goals
  have hcu:=hs.cuts
  rw [hgs] at hgo hcu
  have hg1:=hgo g (List.mem_cons_self ..)
  obtain ⟨hut,hmt⟩:=qx hs.good hg1.1.1 hs.tab ht
  have hw:=fE hsm hut
  rw [cutsG,List.pairwise_cons] at hcu
  obtain ⟨q1,q2,q3,q4⟩:=Ih hp rfl hT hs.good hs.tab ⟨⟨hut,by omega⟩,hmt⟩ (cs:=s.chs) (ns:=s.nodes++[(⟨t,g.up,-1⟩:NI)]) (at_:=s.nodes.length) (rest:=gs) (lE p t) (by simp; omega) (fun x hx=>hgo x (List.mem_cons_of_mem _ hx)) hcu.2 (fq hs.chs _)
  have hl:(fX p t).length<=p.length:=oS _ _ _
  exact ⟨q1,by omega,by rw [q3]; simp,rfl,q4⟩
 | @back g gs t m o hgs ht hsm hc hb hf hT ho=>
  intro s' h
  subst h
  have hgo:=hs.goals
  rw [hgs] at hgo
  have hg1:=hgo g (List.mem_cons_self ..)
  obtain ⟨hut,hmt⟩:=qx hs.good hg1.1.1 hs.tab ht
  have hw:=fE hsm hut
  obtain ⟨k1,k2,_⟩:=hT.ok hp hs.good hs.tab ⟨⟨hut,by omega⟩,hmt⟩
  have k2:=k2 rfl
  have hl:(fX p t).length<=p.length:=oS _ _ _
  obtain ⟨q1,q2,q3,q4⟩:=ho.ok hp ((fq hs.chs _).mono k1 (Nat.le_refl _)) s' rfl
  rw [List.length_append] at q3
  exact ⟨q1,by omega,by simpa using q3,rfl,by omega⟩
theorem Mt {N:Nat} {st:ah} (h:Good N st) {vars:List Int} (hv:∀ n∈vars,0<=n/\n<N):∃ o,ValsI st vars o:=by
 obtain ⟨us,hus⟩:=sw h (vars.map LY) (oT fun t ht=>by
  obtain ⟨n,hn,rfl⟩:=List.mem_map.1 ht
  obtain ⟨h0,h1⟩:=hv n hn
  show okU N (.mk 1 n emptyB [])
  rw [okU,cD]
  exact ⟨by decide,fun _=>⟨h0,by omega,rfl,rfl⟩,trivial,vK⟩)
 exact ⟨_,us,hus,rfl⟩
theorem RunI.ex {p:List C} (hp:∀ cl∈p,mI cl) {vars:List Int} (hv:∀ n∈vars,0<=n/\n<26) (most:Nat):∀ (M n:Nat) (s:SI) (out:List (List T)),n+(most - out.length)<=M->out.length<=most->tY p.length s->26<=s.st.length->∃ r,RunI p vars most n s out r
 | 0,n,s,out,hM,ho,hs,h26=>by
  obtain rfl:n=0:=by omega
  by_cases hg:s.goals=[]
  ·exact ⟨_,.more hg (by omega)⟩
  ·exact ⟨_,.fuel hg⟩
 | M+1,n,s,out,hM,ho,hs,h26=>by
  by_cases hg:s.goals=[]
  ·by_cases hm:out.length=most
   ·exact ⟨_,.more hg hm⟩
   obtain ⟨v,hv1⟩:=Mt hs.good (vars:=vars) fun n hn=>⟨(hv n hn).1,by have:=(hv n hn).2; omega⟩
   cases v with
   | none=>exact ⟨_,.large hg hm hv1⟩
   | some vs=>
    obtain ⟨b,hb⟩:=BackI.ex hp _ s.chs s.st.length s.nodes rfl hs.chs
    cases b with
    | none=>exact ⟨_,.last hg hm hv1 hb⟩
    | some s'=>
     obtain ⟨q1,_,_,q4⟩:=hb.ok hp hs.chs s' rfl
     have hl:(out++[vs]).length=out.length+1:=by simp
     obtain ⟨r,hr⟩:=RunI.ex hp hv most M n s' (out++[vs]) (by omega) (by omega) q1 (by omega)
     exact ⟨r,.next hg hm hv1 hb hr⟩
  ·cases n with
   | zero=>exact ⟨_,.fuel hg⟩
   | succ n=>
    obtain ⟨o,e,hst⟩:=StepI.ex hp false hs hg
    cases o with
    | none=>exact ⟨_,.stop hg hst⟩
    | some s'=>
     obtain ⟨q1,_,_,_,q4⟩:=hst.ok hp hs s' rfl
     obtain ⟨r,hr⟩:=RunI.ex hp hv most M n s' out (by omega) ho q1 (by omega)
     exact ⟨r,.step hg hst hr⟩
def gc (q:List T):SI:=⟨List.replicate 26 none,q.map fun t=>⟨t,0,-1⟩,[],[]⟩
theorem IY (m:Nat) {q:List T} (h:∀ t∈q,(okU 26 t/\wT t<=1048576)/\okM t):tY m (gc q):=by
 have hl:(List.replicate 26 (none:Option T)).length=26:=by simp
 refine ⟨by show Good (List.replicate 26 (none:Option T)).length _; rw [hl]; exact Bw 26,tabM.none 26,fun g hg=>?_,?_,okCs.nil _ _ _⟩
 ·obtain ⟨t,ht,rfl⟩:=List.mem_map.1 hg
  show okGI (List.replicate 26 (none:Option T)).length _/\_
  rw [hl]
  exact ⟨⟨h t ht,Int.le_refl _⟩,Int.le_refl _⟩
 ·show List.Pairwise _ (q.map _)
  rw [List.pairwise_map]
  exact List.pairwise_iff_forall_sublist.2 fun _=>Int.le_refl _
theorem EJ {cl:C} (h:bH cl=true):mI cl:=by
 obtain ⟨h1,h2,h3⟩:=fl h
 have hm:=Ei h
 have hb:=h
 rw [bH] at hb
 simp only [Bool.and_eq_true,decide_eq_true_eq,List.all_eq_true] at hb
 obtain ⟨hl,hgs,hvh,_⟩:=hb
 have hwh:=oJ hvh
 exact ⟨⟨⟨h1,by omega⟩,hm.hd⟩,fun t ht=>⟨⟨h2 t ht,by have:=oJ (i3 (hgs t ht)); omega⟩,hm.bd t ht⟩⟩
end
section
open Go Go.RowKit
theorem jZ (st:ah):∀ ns:List Int,(dn st ns).length=st.length:=by
 intro ns
 induction ns generalizing st with
 | nil=>rfl
 | cons n ns ih=>
  have h:=ih st
  have e:dn st (n::ns)=dn (dn st ns) [n]:=ox st [n] ns
  rw [e,show dn (dn st ns) [n]=(dn st ns).set n.toNat none from tu _ [] n,List.length_set,h]
theorem Jn (st:ah) (k:Nat):∀ ns:List Int,dn (st++List.replicate k none) ns=dn st ns++List.replicate k none:=by
 intro ns
 apply List.ext_getElem?
 intro i
 rw [kJ]
 by_cases hi:i<st.length
 ·rw [List.getElem?_append_left hi,List.getElem?_append_left (by rw [jZ]; exact hi),kJ]
 ·rw [List.getElem?_append_right (by omega),List.getElem?_append_right (by rw [jZ]; omega),jZ,List.getElem?_replicate]
  split
  ·split <;> rfl
  ·rfl
theorem E9 (st:ah) {n m:Nat} (h:st.length<=n) (h':n<=m):bA (bA st n) m=bA st m:=by
 unfold bA
 rw [List.append_assoc,List.replicate_append_replicate]
 congr 2
 simp
 omega
theorem EV (st:ah) (n:Nat) (ns:List Int):dn (bA st n) ns=bA (dn st ns) n:=by
 unfold bA
 rw [Jn,jZ]
def TrG (st st':ah) (tr tr':List Int):Prop:=st.length<=st'.length/\∃ ns,tr'=tr++ns/\dn st' ns=bA st st'.length/\∀ n∈ns,0<=n
theorem TrG.refl (st:ah) (tr:List Int):TrG st st tr tr:=⟨Nat.le_refl _,[],(List.append_nil _).symm,by rw [jA]; rfl,by simp⟩
theorem TrG.grow (st:ah) (tr:List Int) {n:Nat} (h:st.length<=n):TrG st (bA st n) tr tr:=⟨by rw [cW h]; exact h,[],(List.append_nil _).symm,by rw [cW h]; rfl,by simp⟩
theorem TrG.of {st st':ah} {tr tr':List Int} (h:Tr st st' tr tr'):TrG st st' tr tr':=by
 obtain ⟨ns,h1,h2,h3,_⟩:=h
 have hl:st'.length=st.length:=by rw [<- h2,jZ]
 refine ⟨by omega,ns,h1,by rw [h2,hl,jA],fun n hn=>?_⟩
 obtain ⟨j,rfl,_⟩:=h3 n hn
 omega
theorem TrG.trans {a b c:ah} {x y z:List Int} (h:TrG a b x y) (h':TrG b c y z):TrG a c x z:=by
 obtain ⟨l1,n1,e1,u1,p1⟩:=h
 obtain ⟨l2,n2,e2,u2,p2⟩:=h'
 refine ⟨by omega,n1++n2,by rw [e2,e1,List.append_assoc],?_,fun n hn=>(List.mem_append.1 hn).elim (p1 n) (p2 n)⟩
 rw [ox,u2,EV,u1,E9 _ l1 l2]
theorem Tr.short {st st':ah} {tr tr':List Int} (h:Tr st st' tr tr'):tr'.length+unb st'<=tr.length+unb st:=by
 obtain ⟨ns,rfl,_,_,h4⟩:=h
 rw [List.length_append]
 omega
theorem lD:∀ (st:ah) (k:Nat),unb (st++List.replicate k none)=unb st+k
 | [],k=>by rw [List.nil_append,yJ]; simp [unb]
 | none::st,k=>by simp only [List.cons_append,unb,lD st k]; omega
 | some t::st,k=>by simp only [List.cons_append,unb,lD st k]
inductive MkI:List CI->List Nat->ah->List Int->Prop
 | nil {st:ah} {tr:List Int}:MkI [] [] st tr
 | snoc {cs:List CI} {c:CI} {ms:List Nat} {st:ah} {tr0 tr:List Int}:MkI cs ms c.binds tr0->TrG c.binds st tr0 tr->MkI (cs++[c]) (ms++[tr0.length]) st tr
theorem MkI.len {cs:List CI} {ms:List Nat} {st:ah} {tr:List Int} (h:MkI cs ms st tr):ms.length=cs.length:=by
 induction h with
 | nil=>rfl
 | snoc _ _ ih=>rw [List.length_append,List.length_append,ih]; rfl
theorem MkI.go {cs:List CI} {ms:List Nat} {st st':ah} {tr tr':List Int} (h:MkI cs ms st tr) (hg:TrG st st' tr tr'):MkI cs ms st' tr':=by
 cases h with
 | nil=>exact .nil
 | snoc h1 h2=>exact .snoc h1 (h2.trans hg)
theorem MkI.push {cs:List CI} {c:CI} {ms:List Nat} {tr:List Int} (h:MkI cs ms c.binds tr):MkI (cs++[c]) (ms++[tr.length]) c.binds tr:=.snoc h (TrG.refl _ _)
theorem MkI.pop {cs:List CI} {c:CI} {ms:List Nat} {st:ah} {tr:List Int} (h:MkI (cs++[c]) ms st tr):∃ (ms0:List Nat) (m:Nat),ms=ms0++[m]/\m<=tr.length/\(∀ n∈tr.drop m,0<=n)/\dn st (tr.drop m)=bA c.binds st.length/\
  MkI cs ms0 (bA c.binds st.length) (tr.take m)/\MkI cs ms0 st tr:=by
 generalize hl:cs++[c]=l at h
 cases h with
 | nil=>simp at hl
 | @snoc cs' c' ms0 _ tr0 _ h1 h2=>
  obtain ⟨rfl,hc⟩:=List.append_inj' hl rfl
  simp only [List.cons.injEq,and_true] at hc
  subst hc
  obtain ⟨l1,ns,rfl,hu,hp⟩:=h2
  refine ⟨ms0,tr0.length,rfl,by simp,by simpa using hp,by simpa using hu,?_,h1.go ⟨l1,ns,rfl,hu,hp⟩⟩
  have:=h1.go (TrG.grow c.binds tr0 l1)
  simpa using this
theorem MkI.take {cs:List CI} {ms:List Nat} {st:ah} {tr:List Int}:∀ (k:Nat) (_:MkI cs ms st tr),MkI (cs.take (cs.length - k)) (ms.take (cs.length - k)) st tr
 | 0,h=>by
  have:=h.len
  rw [Nat.sub_zero,List.take_length,<- this,List.take_length]; exact h
 | k+1,h=>by
  have hk:=MkI.take k h
  by_cases hz:cs.length - k=0
  ·rw [show cs.length - (k+1)=0 by omega,List.take_zero,List.take_zero]; exact .nil
  have hl:=h.len
  obtain ⟨j,hj⟩:∃ j,cs.length - k=j+1:=⟨cs.length - k - 1,by omega⟩
  have hjc:j<cs.length:=by omega
  rw [hj,List.take_succ_eq_append_getElem hjc] at hk
  obtain ⟨ms0,m,e,_,_,_,_,h2⟩:=hk.pop
  have hl0:ms0.length=j:=by have:=h2.len; rw [List.length_take] at this; omega
  have e2:ms0=ms.take j:=by
   have h3:=congrArg (List.take j) e
   rw [List.take_take,Nat.min_eq_left (by omega),List.take_left' hl0] at h3
   exact h3.symm
  rw [show cs.length - (k+1)=j by omega,<- e2]
  exact h2
theorem MkI.cut {cs:List CI} {ms:List Nat} {st:ah} {tr:List Int} (h:MkI cs ms st tr) {k:Nat} (hk:k<=cs.length):MkI (cs.take k) (ms.take k) st tr:=by
 have:=MkI.take (cs.length - k) h
 rwa [show cs.length - (cs.length - k)=k by omega] at this
end
end Go.Proofs.YtcpgagfdeflbkaaGreatDoor
