/- impl's search in plain Lean: one table that grows with each clause tried; choices; steps; runs. No program in sight. -/
import Derived.Test.YtgllldjiaglkcaaGreatDoorZMa16
import Derived.Test.YtgllldjiaglkcaaGreatDoorZMa14
import Derived.Test.YtgllldjiaglkcaaGreatDoorZMa5
import Derived.Test.YtgllldjiaglkcaaGreatDoorZMa15
import Derived.Test.YtgllldjiaglkcaaGreatDoorZMa11
namespace Go.Proofs.YtgllldjiaglkcaaGreatDoor
section
open Go Go.RowKit
structure GI where
 t:T
 cut:Int
 up:Int
structure CI where
 goal:T
 node:Int
 rest:List GI
 left:List Int
 binds:ao
 taken:Nat
structure NI where
 goal:T
 up:Int
 clause:Int
structure SI where
 st:ao
 goals:List GI
 chs:List CI
 nodes:List NI
def g26 (st:ao):ao:=st++List.replicate 26 none
def cA (st:ao) (n:Nat):ao:=st++List.replicate (n - st.length) none
theorem lZ (st:ao):(g26 st).length=st.length+26:=by simp [g26]
theorem dz {st:ao} {n:Nat} (h:st.length<=n):(cA st n).length=n:=by simp [cA]; omega
theorem Ib {st:ao} {n:Nat} (h:st.length<=n):g26 (cA st n)=cA st (n+26):=by
 unfold g26 cA
 rw [eW,Xm]
 congr 2
 omega
theorem nE (st:ao):cA st st.length=st:=by simp [cA]
theorem TO (st:ao):g26 st=cA st (st.length+26):=by
 rw [<- Ib (aR _),nE]
structure HI where
 i:Nat
 cl:C
 by_:Nat
 l:List Int
 st:ao
inductive TryI (p:List C) (g:T):List Int->ao->Option HI->Nat->Prop
 | nil {st:ao}:TryI p g [] st none st.length
 | hit {i:Nat} {l:List Int} {cl:C} {st st':ao}:p[i]?=some cl->Uni (g26 st) (.one g (cW st.length cl.head)) true st'->TryI p g ((i:Int)::l) st (some ⟨i,cl,st.length,l,st'⟩) (st.length+26)
 | miss {i:Nat} {l:List Int} {cl:C} {st st':ao} {o:Option HI} {n:Nat}:p[i]?=some cl->Uni (g26 st) (.one g (cW st.length cl.head)) false st'->TryI p g l (g26 st) o n->TryI p g ((i:Int)::l) st o n
def lQ (cl:C) (by_:Nat) (cut up:Int) (rest:List GI):List GI:=cl.body.map (fun t=>⟨cW by_ t,cut,up⟩)++rest
def M7 (ns:List NI) (at_:Nat) (i:Int):List NI:=ns.modify at_ fun x=>⟨x.goal,x.up,i⟩
def i7 (chs:List CI) (nodes:List NI) (g:T) (at_:Int) (rest:List GI) (b:ao) (r:HI):SI:=
 ⟨r.st,lQ r.cl r.by_ chs.length at_ rest,chs++(if r.l=[] then [] else [⟨g,at_,rest,r.l,b,nodes.length⟩]),M7 nodes at_.toNat r.i⟩
inductive BackI (p:List C):List CI->Nat->List NI->Option SI->Prop
 | nil {n:Nat} {ns:List NI}:BackI p [] n ns none
 | hit {cs:List CI} {c:CI} {n m:Nat} {ns:List NI} {r:HI}:TryI p c.goal c.left (cA c.binds n) (some r) m->BackI p (cs++[c]) n ns (some (i7 cs (ns.take c.taken) c.goal c.node c.rest (cA c.binds n) r))
 | miss {cs:List CI} {c:CI} {n m:Nat} {ns:List NI} {o:Option SI}:TryI p c.goal c.left (cA c.binds n) none m->BackI p cs m (ns.take c.taken) o->BackI p (cs++[c]) n ns o
def TB (c:Int):Int:=if c=2 then 4 else if c=3 then 5 else if c=4 then 6 else 7
inductive StepI (p:List C) (nc:Bool) (s:SI):Option SI->Int->Prop
 | large {g:GI} {gs:List GI} {t:T}:s.goals=g::gs->Res s.st (.one g.t t)->cq t=false->StepI p nc s none 3
 | noCut {g:GI} {gs:List GI} {t:T}:s.goals=g::gs->Res s.st (.one g.t t)->cq t=true->fw t=true->nc=true->StepI p nc s none 0
 | cut {g:GI} {gs:List GI} {t:T}:s.goals=g::gs->Res s.st (.one g.t t)->cq t=true->fw t=true->nc=false->
   StepI p nc s (some ⟨s.st,gs,s.chs.take g.cut.toNat,s.nodes++[⟨t,g.up,-1⟩]⟩) (-1)
 | solved {g:GI} {gs:List GI} {t:T} {st:ao}:s.goals=g::gs->Res s.st (.one g.t t)->cq t=true->fw t=false->cz t=true->Blt s.st t 0 st->
   StepI p nc s (some ⟨st,gs,s.chs,s.nodes++[⟨t,g.up,-1⟩]⟩) (-1)
 | fail {g:GI} {gs:List GI} {t:T} {st:ao} {o:Option SI}:s.goals=g::gs->Res s.st (.one g.t t)->cq t=true->fw t=false->cz t=true->Blt s.st t 1 st->
   BackI p s.chs s.st.length (s.nodes++[⟨t,g.up,-1⟩]) o->StepI p nc s o (if o.isSome then -1 else 0)
 | err {g:GI} {gs:List GI} {t:T} {st:ao} {c:Int}:s.goals=g::gs->Res s.st (.one g.t t)->cq t=true->fw t=false->cz t=true->Blt s.st t c st->c≠0->c≠1->StepI p nc s none (TB c)
 | unknown {g:GI} {gs:List GI} {t:T}:s.goals=g::gs->Res s.st (.one g.t t)->cq t=true->fw t=false->cz t=false->iz p t=[]->StepI p nc s none 8
 | took {g:GI} {gs:List GI} {t:T} {r:HI} {m:Nat}:s.goals=g::gs->Res s.st (.one g.t t)->cq t=true->fw t=false->cz t=false->iz p t≠[]->
   TryI p t (iz p t) s.st (some r) m->StepI p nc s (some (i7 s.chs (s.nodes++[⟨t,g.up,-1⟩]) t s.nodes.length gs s.st r)) (-1)
 | back {g:GI} {gs:List GI} {t:T} {m:Nat} {o:Option SI}:s.goals=g::gs->Res s.st (.one g.t t)->cq t=true->fw t=false->cz t=false->iz p t≠[]->
   TryI p t (iz p t) s.st none m->BackI p s.chs m (s.nodes++[⟨t,g.up,-1⟩]) o->StepI p nc s o (if o.isSome then -1 else 0)
def Q5 (n:Int):T:=.mk 1 n emptyB []
def ValsI (st:ao) (vars:List Int) (o:Option (List T)):Prop:=∃ us,Res st (.list (vars.map Q5) us)/\
 o=if us.all cq=true/\(bM us []).length<=26 then some (gn (bM us []) us) else none
inductive RunI (p:List C) (vars:List Int) (most:Nat):Nat->SI->List (List T)->List (List T) × Int->Prop
 | fuel {s:SI} {out:List (List T)}:s.goals≠[]->RunI p vars most 0 s out (out,2)
 | stop {n:Nat} {s:SI} {out:List (List T)} {e:Int}:s.goals≠[]->StepI p false s none e->RunI p vars most (n+1) s out (out,e)
 | step {n:Nat} {s s':SI} {out:List (List T)} {e:Int} {r:List (List T) × Int}:s.goals≠[]->StepI p false s (some s') e->RunI p vars most n s' out r->RunI p vars most (n+1) s out r
 | more {n:Nat} {s:SI} {out:List (List T)}:s.goals=[]->out.length=most->RunI p vars most n s out (out,1)
 | large {n:Nat} {s:SI} {out:List (List T)}:s.goals=[]->out.length≠most->ValsI s.st vars none->RunI p vars most n s out (out,3)
 | last {n:Nat} {s:SI} {out:List (List T)} {vs:List T}:s.goals=[]->out.length≠most->ValsI s.st vars (some vs)->BackI p s.chs s.st.length s.nodes none->RunI p vars most n s out (out++[vs],0)
 | next {n:Nat} {s s':SI} {out:List (List T)} {vs:List T} {r:List (List T) × Int}:s.goals=[]->out.length≠most->ValsI s.st vars (some vs)->BackI p s.chs s.st.length s.nodes (some s')->RunI p vars most n s' (out++[vs]) r->RunI p vars most n s out r
structure jP (cl:C):Prop where
 head:(okU 26 cl.head/\wT cl.head<=1048576)/\okM cl.head
 body:∀ t∈cl.body,(okU 26 t/\wT t<=1048576)/\okM t
def okGI (N:Nat) (g:GI):Prop:=((okU N g.t/\wT g.t<=1048576)/\okM g.t)/\0<=g.cut
def cutsG (gs:List GI):Prop:=gs.Pairwise fun a b=>b.cut<=a.cut
structure okCI (m:Nat) (k:Nat) (c:CI):Prop where
 good:Good c.binds.length c.binds
 tab:tabM c.binds
 goal:(okU c.binds.length c.goal/\wT c.goal<=1048576)/\okM c.goal
 rest:∀ g∈c.rest,okGI c.binds.length g/\g.cut<=k
 cuts:cutsG c.rest
 left:∀ i∈c.left,0<=i/\i<m
 node:0<=c.node/\c.node<c.taken
structure okCs (m n k:Nat) (cs:List CI):Prop where
 at_:∀ i (h:i<cs.length),okCI m i cs[i]/\cs[i].binds.length<=n/\cs[i].taken<=k
 srt:cs.Pairwise fun a b=>a.taken<=b.taken
structure sx (m:Nat) (s:SI):Prop where
 good:Good s.st.length s.st
 tab:tabM s.st
 goals:∀ g∈s.goals,okGI s.st.length g/\g.cut<=s.chs.length
 cuts:cutsG s.goals
 chs:okCs m s.st.length s.nodes.length s.chs
def ip:List CI->Nat
 | []=>0
 | c::cs=>c.left.length+ip cs
theorem sO:∀ a b:List CI,ip (a++b)=ip a+ip b
 | [],b=>by simp [ip]
 | x::a,b=>by rw [iC,ip,ip,sO a b,Mz]
theorem Lw:∀ (a:List CI) (k:Nat),ip (a.take k)<=ip a
 | [],k=>by simp [ip]
 | x::a,0=>by simp [ip]
 | x::a,k+1=>by
  have:=Lw a k
  rw [mN,ip,ip]
  omega
theorem okCs.nil (m n k:Nat):okCs m n k []:=⟨fun i h=>by simp at h,List.Pairwise.nil⟩
theorem okCs.snoc {m n k:Nat} {cs:List CI} {c:CI} (h:okCs m n k cs) (hc:okCI m cs.length c/\c.binds.length<=n/\c.taken=k):okCs m n k (cs++[c]):=by
 refine ⟨fun i hi=>?_,?_⟩
 ·rw [bx,bu,bQ] at hi
  by_cases hic:i<cs.length
  ·rw [gt hic]; exact h.at_ i hic
  ·obtain rfl:i=cs.length:=by omega
   rw [fP (aR _)]
   simp only [eD,mF]
   exact ⟨hc.1,hc.2.1,Nj hc.2.2⟩
 ·rw [SQ]
  refine ⟨h.srt,List.pairwise_singleton _ _,fun a ha b hb=>?_⟩
  simp only [bL] at hb
  subst hb
  obtain ⟨i,hi,rfl⟩:=Ak ha
  rw [hc.2.2]
  exact (h.at_ i hi).2.2
theorem okCs.last {m n k:Nat} {cs:List CI} {c:CI} (h:okCs m n k (cs++[c])):okCs m n c.taken cs/\okCI m cs.length c/\c.binds.length<=n/\c.taken<=k:=by
 have hs:=h.srt
 rw [SQ] at hs
 refine ⟨⟨fun i hi=>?_,hs.1⟩,?_⟩
 ·have:=h.at_ i (by rw [bx]; omega)
  rw [gt hi] at this
  exact ⟨this.1,this.2.1,hs.2.2 _ (bA hi) c (by simp)⟩
 ·have:=h.at_ cs.length (by rw [bx]; simp)
  rw [fP (aR _)] at this
  simpa using this
theorem okCs.mono {m n k n' k':Nat} {cs:List CI} (h:okCs m n k cs) (hn:n<=n') (hk:k<=k'):okCs m n' k' cs:=⟨fun i hi=>⟨(h.at_ i hi).1,gB (h.at_ i hi).2.1 hn,gB (h.at_ i hi).2.2 hk⟩,h.srt⟩
theorem okCs.take {m n k:Nat} {cs:List CI} (h:okCs m n k cs) (j:Nat):okCs m n k (cs.take j):=⟨fun i hi=>by
 rw [dK] at hi
 rw [DP]
 exact h.at_ i (by omega),h.srt.sublist (List.take_sublist _ _)⟩
theorem Good.g26 {st:ao} (h:Good st.length st):Good (st.length+26) (g26 st):=h.grow 26
theorem tabM.g26 {st:ao} (h:tabM st):tabM (g26 st):=h.grow 26
theorem Good.to {st:ao} (h:Good st.length st) {n:Nat} (hn:st.length<=n):Good n (cA st n):=by
 have:=h.grow (n - st.length)
 rwa [show st.length+(n - st.length)=n by omega] at this
theorem tabM.to {st:ao} (h:tabM st) (n:Nat):tabM (cA st n):=h.grow _
theorem Lr {st:ao} {g:T} {cl:C} (hg:okU st.length g/\wT g<=1048576) (hcl:jP cl):okJ (st.length+26) (.one g (cW st.length cl.head)):=by
 refine ⟨⟨gZ (qT ..) _ hg.1,hg.2⟩,?_,?_⟩
 ·have:=md st.length cl.head hcl.head.1.1
  rwa [qy] at this
 ·rw [pz]; exact hcl.head.1.2
theorem TryI.ex {p:List C} (hp:∀ cl∈p,jP cl) {g:T}:∀ (l:List Int) (st:ao),Good st.length st->(okU st.length g/\wT g<=1048576)->(∀ i∈l,0<=i/\i<p.length)->∃ o n,TryI p g l st o n
 | [],st,_,_,_=>⟨none,_,.nil⟩
 | i::l,st,hg,ho,hl=>by
  obtain ⟨h0,h1⟩:=hl i (aT ..)
  obtain ⟨j,rfl⟩:∃ j:Nat,i=j:=⟨i.toNat,by omega⟩
  have hj:j<p.length:=by omega
  have hgj:p[j]?=some p[j]:=fT hj
  have hcl:=hp _ (bA hj)
  obtain ⟨r,st',hu⟩:=H0 _ _ hg.g26 (aR _) _ (Lr ho hcl)
  cases r with
  | true=>exact ⟨_,_,.hit hgj hu⟩
  | false=>
   have hlen:=lZ st
   obtain ⟨o,n,ht⟩:=TryI.ex hp l (g26 st) (by rw [hlen]; exact hg.g26) (by rw [hlen]; exact ⟨gZ (qT ..) _ ho.1,ho.2⟩) fun i hi=>hl i (aS _ hi)
   exact ⟨o,n,.miss hgj hu ht⟩
theorem TryI.ok {p:List C} (hp:∀ cl∈p,jP cl) {g:T} {l:List Int} {st:ao} {o:Option HI} {n:Nat} (h:TryI p g l st o n):Good st.length st->tabM st->((okU st.length g/\wT g<=1048576)/\okM g)->
  st.length<=n/\(o=none->n=st.length+26 * l.length)/\∀ r,o=some r->r.cl∈p/\p[r.i]?=some r.cl/\st.length<=r.by_/\r.st.length=r.by_+26/\n=r.by_+26/\Good n r.st/\tabM r.st/\n+26 * r.l.length<=st.length+26 * l.length/\(∀ i∈r.l,i∈l):=by
 induction h with
 | nil=>intro _ _ _; exact ⟨aR _,fun _=>by simp,fun r hr=>by cases hr⟩
 | @hit i l cl st st' hi hu=>
  intro hg ht ho
  have hcl:=hp _ (b0 hi)
  obtain ⟨hg',_⟩:=hu.good hg.g26 (Lr ho.1 hcl)
  have ht':=hu.okM ht.g26 ⟨ho.2,qj _ _ hcl.head.2⟩
  refine ⟨by omega,(fun h=>by cases h),fun r hr=>?_⟩
  simp only [bg] at hr
  subst hr
  refine ⟨b0 hi,hi,aR _,hg'.len,rfl,hg',ht',?_,fun i hi=>aS _ hi⟩
  simp only [bu]
  omega
 | @miss i l cl st st' o n hi hu _ ih=>
  intro hg ht ho
  have hlen:=lZ st
  obtain ⟨h1,h2,h3⟩:=ih (by rw [hlen]; exact hg.g26) ht.g26 ⟨by rw [hlen]; exact ⟨gZ (qT ..) _ ho.1.1,ho.1.2⟩,ho.2⟩
  rw [hlen] at h1 h2 h3
  refine ⟨by omega,fun h=>by rw [h2 h,bu]; omega,fun r hr=>?_⟩
  obtain ⟨a1,a2,a3,a4,a5,a6,a7,a8,a9⟩:=h3 r hr
  exact ⟨a1,a2,by omega,a4,a5,a6,a7,by rw [bu]; omega,fun i hi=>aS _ (a9 i hi)⟩
end
section
open Go Go.RowKit
theorem yj (ns:List NI) (a:Nat) (i:Int):(M7 ns a i).length=ns.length:=by simp [M7]
theorem cutsG.body {cl:C} {b:Nat} {k u:Int} {rest:List GI} (h:cutsG rest) (hr:∀ g∈rest,g.cut<=k):cutsG (lQ cl b k u rest):=by
 unfold lQ cutsG
 rw [SQ]
 refine ⟨?_,h,fun a ha b hb=>?_⟩
 ·rw [List.pairwise_map]
  exact WS.2 fun _=>KE _
 ·obtain ⟨t,_,rfl⟩:=eF.1 ha
  exact hr b hb
theorem okGI.mono {N M:Nat} (h:N<=M) {g:GI} (hg:okGI N g):okGI M g:=⟨⟨⟨gZ h _ hg.1.1.1,hg.1.1.2⟩,hg.1.2⟩,hg.2⟩
theorem U1 {p:List C} (hp:∀ cl∈p,jP cl) {m:Nat} (hm:m=p.length) {g:T} {l:List Int} {b:ao} {r:HI} {n:Nat} (h:TryI p g l b (some r) n) (hg:Good b.length b) (ht:tabM b) (ho:(okU b.length g/\wT g<=1048576)/\okM g)
  {cs:List CI} {ns:List NI} {at_:Int} {rest:List GI} (hl:∀ i∈l,0<=i/\i<p.length) (hat:0<=at_/\at_<ns.length) (hr:∀ g∈rest,okGI b.length g/\g.cut<=cs.length) (hcu:cutsG rest) (hcs:okCs m b.length ns.length cs) :
  sx m (i7 cs ns g at_ rest b r)/\(i7 cs ns g at_ rest b r).st.length+26 * ip (i7 cs ns g at_ rest b r).chs<=b.length+26 * l.length+26 * ip cs/\(i7 cs ns g at_ rest b r).nodes.length=ns.length/\b.length<=(i7 cs ns g at_ rest b r).st.length:=by
 subst hm
 obtain ⟨h1,_,h3⟩:=h.ok hp hg ht ho
 obtain ⟨a1,a2,a3,a4,a5,a6,a7,a8,a9⟩:=h3 r rfl
 have hcl:=hp _ a1
 have hlen:r.st.length=n:=by omega
 have hchs:okCs p.length n ns.length (cs++(if r.l=[] then [] else [⟨g,at_,rest,r.l,b,ns.length⟩])):=by
  have h0:=hcs.mono (n':=n) (k':=ns.length) h1 (aR _)
  split
  ·rwa [dB]
  ·exact h0.snoc ⟨⟨hg,ht,ho,hr,hcu,fun i hi=>hl i (a9 i hi),hat⟩,h1,rfl⟩
 have hlc:cs.length<=(cs++(if r.l=[] then [] else [(⟨g,at_,rest,r.l,b,ns.length⟩:CI)])).length:=by rw [bx]; omega
 refine ⟨⟨?_,a7,?_,hcu.body fun g hg=>(hr g hg).2,?_⟩,?_,yj _ _ _,by show b.length<=r.st.length; omega⟩
 ·show Good r.st.length r.st
  rw [hlen]; exact a6
 ·intro x hx
  have hx':x∈lQ r.cl r.by_ cs.length at_ rest:=hx
  show okGI r.st.length x/\x.cut<=((cs++(if r.l=[] then [] else [(⟨g,at_,rest,r.l,b,ns.length⟩:CI)])).length:Int)
  unfold lQ at hx'
  rcases bJ.1 hx' with hx'|hx'
  ·obtain ⟨t,ht',rfl⟩:=eF.1 hx'
   obtain ⟨⟨q1,q2⟩,q3⟩:=hcl.body t ht'
   refine ⟨⟨⟨⟨?_,?_⟩,qj _ _ q3⟩,by simp only; omega⟩,by simp only; omega⟩
   ·have:=md r.by_ t q1
    rw [qy] at this
    rw [a4]; exact this
   ·simp only [pz]; exact q2
  ·obtain ⟨q1,q2⟩:=hr x hx'
   exact ⟨q1.mono (by omega),by omega⟩
 ·show okCs p.length r.st.length (M7 ns at_.toNat r.i).length (cs++(if r.l=[] then [] else [⟨g,at_,rest,r.l,b,ns.length⟩]))
  rw [hlen,yj]; exact hchs
 ·show r.st.length+26 * ip (cs++(if r.l=[] then [] else [(⟨g,at_,rest,r.l,b,ns.length⟩:CI)]))<=_
  rw [sO]
  split
  ·simp only [ip]; omega
  ·simp only [ip]; omega
theorem okCI.grow {m k n:Nat} {c:CI} (h:okCI m k c) (hn:c.binds.length<=n):Good (cA c.binds n).length (cA c.binds n)/\tabM (cA c.binds n)/\((okU (cA c.binds n).length c.goal/\wT c.goal<=1048576)/\okM c.goal)/\
  ∀ g∈c.rest,okGI (cA c.binds n).length g/\g.cut<=k:=by
 rw [dz hn]
 exact ⟨h.good.to hn,h.tab.to n,⟨⟨gZ hn _ h.goal.1.1,h.goal.1.2⟩,h.goal.2⟩,fun g hg=>⟨(h.rest g hg).1.mono hn,(h.rest g hg).2⟩⟩
theorem BackI.ex {p:List C} (hp:∀ cl∈p,jP cl):∀ (L:Nat) (cs:List CI) (n:Nat) (ns:List NI),cs.length=L->okCs p.length n ns.length cs->∃ o,BackI p cs n ns o
 | 0,cs,n,ns,hL,_=>by
  obtain rfl:=gr hL
  exact ⟨none,.nil⟩
 | L+1,cs,n,ns,hL,hcs=>by
  obtain ⟨init,c,rfl⟩:∃ init c,cs=init++[c]:=⟨cs.dropLast,cs.getLast (by intro e; rw [e] at hL; simp at hL),(Ur _).symm⟩
  rw [bx,bu,bQ] at hL
  obtain ⟨h1,h2,h3,h4⟩:=hcs.last
  obtain ⟨g1,g2,g3,g4⟩:=h2.grow h3
  obtain ⟨o,m,ht⟩:=TryI.ex hp c.left (cA c.binds n) g1 g3.1 h2.left
  cases o with
  | some r=>exact ⟨_,.hit ht⟩
  | none=>
   obtain ⟨k1,_,_⟩:=ht.ok hp g1 g2 g3
   rw [dz h3] at k1
   obtain ⟨o,ho⟩:=BackI.ex hp L init m (ns.take c.taken) (by omega) (h1.mono k1 (by rw [dK]; omega))
   exact ⟨o,.miss ht ho⟩
theorem BackI.ok {p:List C} (hp:∀ cl∈p,jP cl) {cs:List CI} {n:Nat} {ns:List NI} {o:Option SI} (h:BackI p cs n ns o):okCs p.length n ns.length cs->∀ s,o=some s->sx p.length s/\s.st.length+26 * ip s.chs<=n+26 * ip cs/\s.nodes.length<=ns.length/\n<=s.st.length:=by
 induction h with
 | nil=>intro _ s hs; cases hs
 | @hit cs c n m ns r ht=>
  intro hcs s hs
  simp only [bg] at hs
  subst hs
  obtain ⟨h1,h2,h3,h4⟩:=hcs.last
  obtain ⟨g1,g2,g3,g4⟩:=h2.grow h3
  have hlt:(ns.take c.taken).length=c.taken:=by rw [dK]; omega
  have hl:=dz h3
  obtain ⟨q1,q2,q3,q4⟩:=U1 hp rfl ht g1 g2 g3 (cs:=cs) (ns:=ns.take c.taken) (at_:=c.node) (rest:=c.rest) h2.left (by rw [hlt]; exact h2.node) g4 h2.cuts (by rw [hlt,hl]; exact h1)
  rw [hl] at q2 q4
  refine ⟨q1,?_,by rw [q3,dK]; omega,q4⟩
  rw [sO,ip,ip]
  omega
 | @miss cs c n m ns o ht _ ih=>
  intro hcs s hs
  obtain ⟨h1,h2,h3,h4⟩:=hcs.last
  obtain ⟨g1,g2,g3,g4⟩:=h2.grow h3
  obtain ⟨k1,k2,_⟩:=ht.ok hp g1 g2 g3
  have hl:=dz h3
  have k2:=k2 rfl
  rw [hl] at k1 k2
  have hlt:(ns.take c.taken).length=c.taken:=by rw [dK]; omega
  obtain ⟨q1,q2,q3,q4⟩:=ih (by rw [hlt]; exact h1.mono k1 (aR _)) s hs
  refine ⟨q1,?_,by rw [dK] at q3; omega,by omega⟩
  rw [sO,ip,ip]
  omega
theorem qC {N:Nat} {st:ao} (hg:Good N st) {t u:T} (ht:(okU N t/\wT t<=1048576)/\okM t) (hm:tabM st) (hu:Res st (.one t u)):okU N u/\okM u:=⟨l0 hg hu ht.1.1,hu.okM hm ht.2⟩
theorem gw {m n:Nat} {ns:List NI} {cs:List CI} (h:okCs m n ns.length cs) (x:NI):okCs m n (ns++[x]).length cs:=h.mono (aR _) (by simp)
theorem StepI.ex {p:List C} (hp:∀ cl∈p,jP cl) (nc:Bool) {s:SI} (hs:sx p.length s) (hg:s.goals≠[]):∃ o e,StepI p nc s o e:=by
 obtain ⟨g,gs,hgs⟩:∃ g gs,s.goals=g::gs:=by
  cases h:s.goals with
  | nil=>exact absurd h hg
  | cons g gs=>exact ⟨g,gs,rfl⟩
 have hgo:=hs.goals
 rw [hgs] at hgo
 have hg1:=hgo g (aT ..)
 obtain ⟨t,ht⟩:=SR hs.good g.t hg1.1.1.1.1
 obtain ⟨hut,hmt⟩:=qC hs.good hg1.1.1 hs.tab ht
 cases hsm:cq t with
 | false=>exact ⟨_,_,.large hgs ht hsm⟩
 | true=>
  have hw:=gG hsm hut
  cases hc:fw t with
  | true=>
   cases nc with
   | true=>exact ⟨_,_,.noCut hgs ht hsm hc rfl⟩
   | false=>exact ⟨_,_,.cut hgs ht hsm hc rfl⟩
  | false=>
   have hns:=gw hs.chs ⟨t,g.up,-1⟩
   cases hb:cz t with
   | true=>
    obtain ⟨c,st,hB⟩:=Blt.ex hs.good hb ⟨hut,by omega⟩
    by_cases h0:c=0
    ·subst h0; exact ⟨_,_,.solved hgs ht hsm hc hb hB⟩
    by_cases h1:c=1
    ·subst h1
     obtain ⟨o,ho⟩:=BackI.ex hp _ s.chs s.st.length (s.nodes++[(⟨t,g.up,-1⟩:NI)]) rfl hns
     exact ⟨_,_,.fail hgs ht hsm hc hb hB ho⟩
    ·exact ⟨_,_,.err hgs ht hsm hc hb hB h0 h1⟩
   | false=>
    by_cases hf:iz p t=[]
    ·exact ⟨_,_,.unknown hgs ht hsm hc hb hf⟩
    obtain ⟨o,m,hT⟩:=TryI.ex hp (iz p t) s.st hs.good ⟨hut,by omega⟩ (re p t)
    cases o with
    | some r=>exact ⟨_,_,.took hgs ht hsm hc hb hf hT⟩
    | none=>
     obtain ⟨k1,_,_⟩:=hT.ok hp hs.good hs.tab ⟨⟨hut,by omega⟩,hmt⟩
     obtain ⟨o,ho⟩:=BackI.ex hp _ s.chs m (s.nodes++[(⟨t,g.up,-1⟩:NI)]) rfl (hns.mono k1 (aR _))
     exact ⟨_,_,.back hgs ht hsm hc hb hf hT ho⟩
theorem StepI.ok {p:List C} (hp:∀ cl∈p,jP cl) {nc:Bool} {s:SI} {o:Option SI} {e:Int} (h:StepI p nc s o e) (hs:sx p.length s):∀ s',o=some s'->sx p.length s'/\s'.st.length+26 * ip s'.chs<=s.st.length+26 * ip s.chs+26 * p.length/\s'.nodes.length<=s.nodes.length+1/\e=-1/\s.st.length<=s'.st.length:=by
 have hgood:=hs.good
 cases h with
 | large=>intro s' h; cases h
 | noCut=>intro s' h; cases h
 | err=>intro s' h; cases h
 | unknown=>intro s' h; cases h
 | @cut g gs t hgs ht hsm hc hnc=>
  intro s' h
  simp only [bg] at h
  subst h
  have hgo:=hs.goals
  have hcu:=hs.cuts
  rw [hgs] at hgo hcu
  have hg1:=hgo g (aT ..)
  have hcut:=hg1.1.2
  have hle:=hg1.2
  rw [cutsG,Sf] at hcu
  have hlt:(s.chs.take g.cut.toNat).length=g.cut.toNat:=by rw [dK]; omega
  refine ⟨⟨hs.good,hs.tab,fun x hx=>⟨(hgo x (aS _ hx)).1,?_⟩,hcu.2,(gw hs.chs _).take _⟩,?_,by simp,rfl,aR _⟩
  ·have:=hcu.1 x hx
   show x.cut<=((s.chs.take g.cut.toNat).length:Int)
   rw [hlt]; omega
  ·have:=Lw s.chs g.cut.toNat
   show s.st.length+26 * ip (s.chs.take g.cut.toNat)<=_
   omega
 | @solved g gs t st hgs ht hsm hc hb hB=>
  intro s' h
  simp only [bg] at h
  subst h
  have hgo:=hs.goals
  have hcu:=hs.cuts
  rw [hgs] at hgo hcu
  have hg1:=hgo g (aT ..)
  obtain ⟨hut,hmt⟩:=qC hs.good hg1.1.1 hs.tab ht
  have hw:=gG hsm hut
  have hgd:=hB.good hs.good hb ⟨hut,by omega⟩
  have htb:=hB.okM hs.tab hmt
  have hlen:=hgd.len
  rw [cutsG,Sf] at hcu
  refine ⟨⟨by show Good st.length st; rw [hlen]; exact hgd,htb,fun x hx=>?_,hcu.2,?_⟩,?_,by simp,rfl,Nj hlen.symm⟩
  ·show okGI st.length x/\_
   rw [hlen]
   exact hgo x (aS _ hx)
  ·show okCs p.length st.length (s.nodes++[(⟨t,g.up,-1⟩:NI)]).length s.chs
   rw [hlen]; exact gw hs.chs _
  ·show st.length+26 * ip s.chs<=_
   omega
 | @fail g gs t st o hgs ht hsm hc hb hB ho=>
  intro s' h
  subst h
  obtain ⟨q1,q2,q3,q4⟩:=ho.ok hp (gw hs.chs _) s' rfl
  rw [bx] at q3
  exact ⟨q1,by omega,by simpa using q3,rfl,q4⟩
 | @took g gs t r m hgs ht hsm hc hb hf hT=>
  intro s' h
  simp only [bg] at h
  subst h
  have hgo:=hs.goals
  have hcu:=hs.cuts
  rw [hgs] at hgo hcu
  have hg1:=hgo g (aT ..)
  obtain ⟨hut,hmt⟩:=qC hs.good hg1.1.1 hs.tab ht
  have hw:=gG hsm hut
  rw [cutsG,Sf] at hcu
  obtain ⟨q1,q2,q3,q4⟩:=U1 hp rfl hT hs.good hs.tab ⟨⟨hut,by omega⟩,hmt⟩ (cs:=s.chs) (ns:=s.nodes++[(⟨t,g.up,-1⟩:NI)]) (at_:=s.nodes.length) (rest:=gs) (re p t) (by simp; omega) (fun x hx=>hgo x (aS _ hx)) hcu.2 (gw hs.chs _)
  have hl:(iz p t).length<=p.length:=uX _ _ _
  exact ⟨q1,by omega,by rw [q3]; simp,rfl,q4⟩
 | @back g gs t m o hgs ht hsm hc hb hf hT ho=>
  intro s' h
  subst h
  have hgo:=hs.goals
  rw [hgs] at hgo
  have hg1:=hgo g (aT ..)
  obtain ⟨hut,hmt⟩:=qC hs.good hg1.1.1 hs.tab ht
  have hw:=gG hsm hut
  obtain ⟨k1,k2,_⟩:=hT.ok hp hs.good hs.tab ⟨⟨hut,by omega⟩,hmt⟩
  have k2:=k2 rfl
  have hl:(iz p t).length<=p.length:=uX _ _ _
  obtain ⟨q1,q2,q3,q4⟩:=ho.ok hp ((gw hs.chs _).mono k1 (aR _)) s' rfl
  rw [bx] at q3
  exact ⟨q1,by omega,by simpa using q3,rfl,by omega⟩
theorem YQ {N:Nat} {st:ao} (h:Good N st) {vars:List Int} (hv:∀ n∈vars,0<=n/\n<N):∃ o,ValsI st vars o:=by
 obtain ⟨us,hus⟩:=yR h (vars.map Q5) (qP fun t ht=>by
  obtain ⟨n,hn,rfl⟩:=eF.1 ht
  obtain ⟨h0,h1⟩:=hv n hn
  show okU N (.mk 1 n emptyB [])
  rw [okU,de]
  exact ⟨by decide,fun _=>⟨h0,by omega,rfl,rfl⟩,trivial,Ee⟩)
 exact ⟨_,us,hus,rfl⟩
theorem RunI.ex {p:List C} (hp:∀ cl∈p,jP cl) {vars:List Int} (hv:∀ n∈vars,0<=n/\n<26) (most:Nat):∀ (M n:Nat) (s:SI) (out:List (List T)),n+(most - out.length)<=M->out.length<=most->sx p.length s->26<=s.st.length->∃ r,RunI p vars most n s out r
 | 0,n,s,out,hM,ho,hs,h26=>by
  obtain rfl:n=0:=by omega
  by_cases hg:s.goals=[]
  ·exact ⟨_,.more hg (by omega)⟩
  ·exact ⟨_,.fuel hg⟩
 | M+1,n,s,out,hM,ho,hs,h26=>by
  by_cases hg:s.goals=[]
  ·by_cases hm:out.length=most
   ·exact ⟨_,.more hg hm⟩
   obtain ⟨v,hv1⟩:=YQ hs.good (vars:=vars) fun n hn=>⟨(hv n hn).1,by have:=(hv n hn).2; omega⟩
   cases v with
   | none=>exact ⟨_,.large hg hm hv1⟩
   | some vs=>
    obtain ⟨b,hb⟩:=BackI.ex hp _ s.chs s.st.length s.nodes rfl hs.chs
    cases b with
    | none=>exact ⟨_,.last hg hm hv1 hb⟩
    | some s'=>
     obtain ⟨q1,_,_,q4⟩:=hb.ok hp hs.chs s' rfl
     have hl:(out++[vs]).length=out.length+1:=by simp
     obtain ⟨r,hr⟩:=RunI.ex hp hv most M n s' (out++[vs]) (by omega) (by omega) q1 (by omega)
     exact ⟨r,.next hg hm hv1 hb hr⟩
  ·cases n with
   | zero=>exact ⟨_,.fuel hg⟩
   | succ n=>
    obtain ⟨o,e,hst⟩:=StepI.ex hp false hs hg
    cases o with
    | none=>exact ⟨_,.stop hg hst⟩
    | some s'=>
     obtain ⟨q1,_,_,_,q4⟩:=hst.ok hp hs s' rfl
     obtain ⟨r,hr⟩:=RunI.ex hp hv most M n s' out (by omega) ho q1 (by omega)
     exact ⟨r,.step hg hst hr⟩
def gC (q:List T):SI:=⟨List.replicate 26 none,q.map fun t=>⟨t,0,-1⟩,[],[]⟩
theorem VI (m:Nat) {q:List T} (h:∀ t∈q,(okU 26 t/\wT t<=1048576)/\okM t):sx m (gC q):=by
 have hl:(List.replicate 26 (none:Option T)).length=26:=by simp
 refine ⟨by show Good (List.replicate 26 (none:Option T)).length _; rw [hl]; exact Ky 26,tabM.none 26,fun g hg=>?_,?_,okCs.nil _ _ _⟩
 ·obtain ⟨t,ht,rfl⟩:=eF.1 hg
  show okGI (List.replicate 26 (none:Option T)).length _/\_
  rw [hl]
  exact ⟨⟨h t ht,KE _⟩,KE _⟩
 ·show List.Pairwise _ (q.map _)
  rw [List.pairwise_map]
  exact WS.2 fun _=>KE _
theorem P6 {cl:C} (h:bN cl=true):jP cl:=by
 obtain ⟨h1,h2,h3⟩:=gc h
 have hm:=Pn h
 have hb:=h
 rw [bN] at hb
 simp only [bw,bk,dE] at hb
 obtain ⟨hl,hgs,hvh,_⟩:=hb
 have hwh:=nO hvh
 exact ⟨⟨⟨h1,by omega⟩,hm.hd⟩,fun t ht=>⟨⟨h2 t ht,by have:=nO (i9 (hgs t ht)); omega⟩,hm.bd t ht⟩⟩
end
section
open Go Go.RowKit
theorem pV (st:ao):∀ ns:List Int,(fh st ns).length=st.length:=by
 intro ns
 induction ns generalizing st with
 | nil=>rfl
 | cons n ns ih=>
  have h:=ih st
  have e:fh st (n::ns)=fh (fh st ns) [n]:=uN st [n] ns
  rw [e,show fh (fh st ns) [n]=(fh st ns).set n.toNat none from CA _ [] n,oc,h]
theorem VD (st:ao) (k:Nat):∀ ns:List Int,fh (st++List.replicate k none) ns=fh st ns++List.replicate k none:=by
 intro ns
 apply wv
 intro i
 rw [pT]
 by_cases hi:i<st.length
 ·rw [wy hi,wy (by rw [pV]; exact hi),pT]
 ·rw [ir (by omega),ir (by rw [pV]; omega),pV,Ll]
  split
  ·split <;> rfl
  ·rfl
theorem Ql (st:ao) {n m:Nat} (h:st.length<=n) (h':n<=m):cA (cA st n) m=cA st m:=by
 unfold cA
 rw [eW,Xm]
 congr 2
 simp
 omega
theorem PM (st:ao) (n:Nat) (ns:List Int):fh (cA st n) ns=cA (fh st ns) n:=by
 unfold cA
 rw [VD,pV]
def TrG (st st':ao) (tr tr':List Int):Prop:=st.length<=st'.length/\∃ ns,tr'=tr++ns/\fh st' ns=cA st st'.length/\∀ n∈ns,0<=n
theorem TrG.refl (st:ao) (tr:List Int):TrG st st tr tr:=⟨aR _,[],(dB _).symm,by rw [nE]; rfl,by simp⟩
theorem TrG.grow (st:ao) (tr:List Int) {n:Nat} (h:st.length<=n):TrG st (cA st n) tr tr:=⟨by rw [dz h]; exact h,[],(dB _).symm,by rw [dz h]; rfl,by simp⟩
theorem TrG.of {st st':ao} {tr tr':List Int} (h:Tr st st' tr tr'):TrG st st' tr tr':=by
 obtain ⟨ns,h1,h2,h3,_⟩:=h
 have hl:st'.length=st.length:=by rw [<- h2,pV]
 refine ⟨by omega,ns,h1,by rw [h2,hl,nE],fun n hn=>?_⟩
 obtain ⟨j,rfl,_⟩:=h3 n hn
 omega
theorem TrG.trans {a b c:ao} {x y z:List Int} (h:TrG a b x y) (h':TrG b c y z):TrG a c x z:=by
 obtain ⟨l1,n1,e1,u1,p1⟩:=h
 obtain ⟨l2,n2,e2,u2,p2⟩:=h'
 refine ⟨by omega,n1++n2,by rw [e2,e1,eW],?_,fun n hn=>(bJ.1 hn).elim (p1 n) (p2 n)⟩
 rw [uN,u2,PM,u1,Ql _ l1 l2]
theorem Tr.short {st st':ao} {tr tr':List Int} (h:Tr st st' tr tr'):tr'.length+unb st'<=tr.length+unb st:=by
 obtain ⟨ns,rfl,_,_,h4⟩:=h
 rw [bx]
 omega
theorem qU:∀ (st:ao) (k:Nat),unb (st++List.replicate k none)=unb st+k
 | [],k=>by rw [s3,H8]; simp [unb]
 | none::st,k=>by simp only [iC,unb,qU st k]; omega
 | some t::st,k=>by simp only [iC,unb,qU st k]
inductive MkI:List CI->List Nat->ao->List Int->Prop
 | nil {st:ao} {tr:List Int}:MkI [] [] st tr
 | snoc {cs:List CI} {c:CI} {ms:List Nat} {st:ao} {tr0 tr:List Int}:MkI cs ms c.binds tr0->TrG c.binds st tr0 tr->MkI (cs++[c]) (ms++[tr0.length]) st tr
theorem MkI.len {cs:List CI} {ms:List Nat} {st:ao} {tr:List Int} (h:MkI cs ms st tr):ms.length=cs.length:=by
 induction h with
 | nil=>rfl
 | snoc _ _ ih=>rw [bx,bx,ih]; rfl
theorem MkI.go {cs:List CI} {ms:List Nat} {st st':ao} {tr tr':List Int} (h:MkI cs ms st tr) (hg:TrG st st' tr tr'):MkI cs ms st' tr':=by
 cases h with
 | nil=>exact .nil
 | snoc h1 h2=>exact .snoc h1 (h2.trans hg)
theorem MkI.push {cs:List CI} {c:CI} {ms:List Nat} {tr:List Int} (h:MkI cs ms c.binds tr):MkI (cs++[c]) (ms++[tr.length]) c.binds tr:=.snoc h (TrG.refl _ _)
theorem MkI.pop {cs:List CI} {c:CI} {ms:List Nat} {st:ao} {tr:List Int} (h:MkI (cs++[c]) ms st tr):∃ (ms0:List Nat) (m:Nat),ms=ms0++[m]/\m<=tr.length/\(∀ n∈tr.drop m,0<=n)/\fh st (tr.drop m)=cA c.binds st.length/\
  MkI cs ms0 (cA c.binds st.length) (tr.take m)/\MkI cs ms0 st tr:=by
 generalize hl:cs++[c]=l at h
 cases h with
 | nil=>simp at hl
 | @snoc cs' c' ms0 _ tr0 _ h1 h2=>
  obtain ⟨rfl,hc⟩:=XL hl rfl
  simp only [jp,mU] at hc
  subst hc
  obtain ⟨l1,ns,rfl,hu,hp⟩:=h2
  refine ⟨ms0,tr0.length,rfl,by simp,by simpa using hp,by simpa using hu,?_,h1.go ⟨l1,ns,rfl,hu,hp⟩⟩
  have:=h1.go (TrG.grow c.binds tr0 l1)
  simpa using this
theorem MkI.take {cs:List CI} {ms:List Nat} {st:ao} {tr:List Int}:∀ (k:Nat) (_:MkI cs ms st tr),MkI (cs.take (cs.length - k)) (ms.take (cs.length - k)) st tr
 | 0,h=>by
  have:=h.len
  rw [Nat.sub_zero,fk,<- this,fk]; exact h
 | k+1,h=>by
  have hk:=MkI.take k h
  by_cases hz:cs.length - k=0
  ·rw [show cs.length - (k+1)=0 by omega,ML,ML]; exact .nil
  have hl:=h.len
  obtain ⟨j,hj⟩:∃ j,cs.length - k=j+1:=⟨cs.length - k - 1,by omega⟩
  have hjc:j<cs.length:=by omega
  rw [hj,fj hjc] at hk
  obtain ⟨ms0,m,e,_,_,_,_,h2⟩:=hk.pop
  have hl0:ms0.length=j:=by have:=h2.len; rw [dK] at this; omega
  have e2:ms0=ms.take j:=by
   have h3:=congrArg (List.take j) e
   rw [mJ,kD (by omega),FE hl0] at h3
   exact h3.symm
  rw [show cs.length - (k+1)=j by omega,<- e2]
  exact h2
theorem MkI.cut {cs:List CI} {ms:List Nat} {st:ao} {tr:List Int} (h:MkI cs ms st tr) {k:Nat} (hk:k<=cs.length):MkI (cs.take k) (ms.take k) st tr:=by
 have:=MkI.take (cs.length - k) h
 rwa [show cs.length - (cs.length - k)=k by omega] at this
end
section
open Go Go.RowKit
inductive GL (S:af):Value->List GI->Prop
 | nil:GL S (.pointer none) []
 | cons {b:Nat} {a0 a1 a2 a3 nv:Value} {E:TypeId} {fz:Nat × Nat} {g:GI} {gs:List GI}:S b=some (.cells #[a0,a1,a2,a3,.int .i64 g.cut,.int .i64 g.up,nv] E fz)->RdT S [a0,a1,a2,a3] g.t->GL S nv gs->GL S (.pointer (some ⟨b,0,none⟩)) (g::gs)
theorem GL.mono {S S':af} (hs:Sle S S') {v:Value} {gs:List GI} (h:GL S v gs):GL S' v gs:=by
 induction h with
 | nil=>exact .nil
 | cons h1 h2 _ ih=>exact .cons (hs _ _ h1) (h2.mono hs) ih
theorem GL.ptr {S:af} {v:Value} {gs:List GI} (h:GL S v gs):∃ p,v=.pointer p:=by
 cases h with
 | nil=>exact ⟨_,rfl⟩
 | cons=>exact ⟨_,rfl⟩
theorem RdT.four {S:af} {cs:List Value} {t:T} (h:RdT S cs t):∃ a0 a1 a2 a3,cs=[a0,a1,a2,a3]:=by
 obtain ⟨kv,rfl,_⟩:=RdT.iff.1 h
 exact ⟨_,_,_,_,rfl⟩
section
variable {w:World} {K:Value->World->Prop}
attribute [local irreducible] Run
theorem Vs {a b c d:Value} {i j:Int} {p:Option Addr} (hk:K (.agg #[a,b,c,d,.int .i64 i,.int .i64 j,.pointer p]) w):Run Tryz.prog (cU nw [(0,.agg #[a,b,c,d]),(1,.int .i64 i),(2,.int .i64 j),(3,.pointer p)]) w K:=by
 refine Run.of (v:=.agg #[a,b,c,d,.int .i64 i,.int .i64 j,.pointer p]) (w':=w) ?_ hk
 unfold cU
 rw [Sem.run_bind,run_build w nw _ #[a,b,c,d,.int .i64 i,.int .i64 j,.pointer p] (by kernel_rfl),Result.andThen_ok]
 rfl
theorem OT {a b c d:Value} {i j:Int} (hk:K (.agg #[a,b,c,d,.int .i64 i,.int .i64 j]) w):Run Tryz.prog (cU lY [(0,.agg #[a,b,c,d]),(1,.int .i64 i),(2,.int .i64 j)]) w K:=by
 refine Run.of (v:=.agg #[a,b,c,d,.int .i64 i,.int .i64 j]) (w':=w) ?_ hk
 unfold cU
 rw [Sem.run_bind,run_build w lY _ #[a,b,c,d,.int .i64 i,.int .i64 j] (by kernel_rfl),Result.andThen_ok]
 rfl
theorem IH {a b c d:Value} {i j k:Int} {p:Option Addr} {q:Option Addr} {n m:Nat} (hk:K (.agg #[a,b,c,d,.int .i64 i,.pointer p,.slice q n m,.int .i64 j,.int .i64 k]) w) :
  Run Tryz.prog (cU ed [(0,.agg #[a,b,c,d]),(1,.int .i64 i),(2,.pointer p),(3,.slice q n m),(4,.int .i64 j),(5,.int .i64 k)]) w K:=by
 refine Run.of (v:=.agg #[a,b,c,d,.int .i64 i,.pointer p,.slice q n m,.int .i64 j,.int .i64 k]) (w':=w) ?_ hk
 unfold cU
 rw [Sem.run_bind,run_build w ed _ #[a,b,c,d,.int .i64 i,.pointer p,.slice q n m,.int .i64 j,.int .i64 k] (by kernel_rfl),Result.andThen_ok]
 rfl
end
section
attribute [local irreducible] Run CondV aw aN
theorem Lx {ts:List T} {S:af} {v gv:Value} {gs:List GI} {cut up:Int} (h:RdSl S 4 (RdT S) v ts) (hg:GL S gv gs):Tri Tryz.prog Y4 [v,.int .i64 cut,.int .i64 up,gv] [] S fun q I' S'=>I'=[]/\GL S' q (ts.map (fun t=>⟨t,cut,up⟩)++gs):=by
 intro w hI
 have hlen:=h.le
 simp only [maxLen] at hlen
 refine OV.2 ?_
 dsimp only[OV,lG]
 refine aC h ae ?_
 refine mz (by omega) ?_
 refine ⟨fun i q w'=>∃ (j:Nat) (S1:af),j<=ts.length/\i=.int .i64 ((j:Int) - 1)/\Ext w.heap.size [] S S1/\GL S1 q ((ts.drop j).map (fun t=>⟨t,cut,up⟩)++gs)/\Inv w [] [] S1 w',fun i _ _=>((intOf i)+1).toNat,
  ⟨ts.length,S,aR _,rfl,Ext.refl _ _ _,by rw [dL]; exact hg,hI⟩,?_⟩
 intro t9 _ _ t3 _ _ _ _ _ _ _ _ _ _ _ w'
 rintro ⟨j,S1,hj,rfl,hE,hgl,hI⟩
 refine mY ?_
 refine aI (fun h0=>?_) (fun h0=>?_)
 ·obtain ⟨k,rfl⟩:∃ k,j=k+1:=⟨j - 1,by omega⟩
  have hk:k<ts.length:=by omega
  rw [show (((k+1:Nat):Int) - 1)=(k:Int) by omega]
  refine cE hI (h.monoT hE.1) ae ad hk (fun _ _=>RdT.length) fun cs hcs=>?_
  obtain ⟨a0,a1,a2,a3,rfl⟩:=hcs.four
  obtain ⟨p,rfl⟩:=hgl.ptr
  refine Vs ?_
  refine bt hI fun b w' hI=>?_
  have hI:Inv w [] ([]++[.blk b (.cells #[a0,a1,a2,a3,.int .i64 cut,.int .i64 up,.pointer p] nw)]) S1 w':=hI
  obtain ⟨S2,hI,hE2,hS2⟩:=Inv.pub1 hI
  refine mz (by omega) ?_
  refine ⟨⟨k,S2,by omega,rfl,hE.trans hE2,?_,hI⟩,by simp only [intOf]; omega⟩
  rw [cZ hk,lx,iC]
  exact GL.cons hS2 (hcs.mono hE2.1) (hgl.mono hE2.1)
 ·have:j=0:=by omega
  subst this
  exact ⟨_,_,S1,rfl,hI,hE,rfl,by simpa using hgl⟩
theorem Vo {S:af} {b:Nat} {by_:Int} {E:TypeId} {fz:Nat × Nat} (hb:S b=some (.cells #[.int .i64 by_] E fz)) (h0:0<=by_/\by_<=10000000):Fun qk [.pointer (some ⟨b,0,none⟩)] S fun n=>.mk 1 (n+by_) ⟨#[]⟩ []:=by
 intro S' hle n hn0 hn25
 have hb':=hle _ _ hb
 refine ⟨[.int .i64 1,.int .i64 (n+by_),.string ⟨#[]⟩,.slice none 0 0],RdT.nil (by simp [inI]) (by simp only [inI]; omega) (show 0<=maxLen from be _) (by simp [maxLen]),fun w hI=>?_⟩
 refine nz.2 ?_
 dsimp only[nz,aZ]
 refine aV hI aY fun b2 w' hI=>?_
 refine cw aH (by rw [hI.cellS hb']; rfl) ?_
 refine bq (by omega) ?_
 refine Run.callPure oO oS hI (nf _ S') fun w' hI=>?_
 refine aA hI 0 rfl ad rfl rfl (by simp [Value.oneCell']) fun w' hI=>?_
 refine bC hI 0 ad rfl rfl ?_
 exact done hI rfl
end
mutual
theorem uF {N:Nat} (b:Nat):∀ t:T,okU N t->qq (fun n=>.mk 1 (n+(b:Int)) ⟨#[]⟩ []) t=cW b t
 | .mk k n s ks,h=>by
  rw [okU] at h
  rw [qq,cW]
  by_cases hk:k=1
  ·have h1:=h.2.1 hk
   rw [ai hk,ai hk,h1.2.2.2,gj,h1.2.2.1,hk]
   rfl
  ·rw [ah hk,ah hk,ya b ks h.2.2.1]
theorem ya {N:Nat} (b:Nat):∀ ts:List T,de N ts->pf (fun n=>.mk 1 (n+(b:Int)) ⟨#[]⟩ []) ts=gj b ts
 | [],_=>rfl
 | t::ts,h=>by
  rw [de] at h
  rw [pf,gj,uF b t h.1,ya b ts h.2]
end
end
section
open Go Go.RowKit
theorem Dr {k f:Nat} {x:Value}:∀ (css:List (List Value)) (j:Nat) (_:∀ cs∈css,cs.length=k) (h:j<css.length) (_:f<k),css.flatten.set (j * k+f) x=(css.set j (css[j].set f x)).flatten
 | [],j,_,h,_=>by simp at h
 | c::css,0,hk,_,hf=>by
  have:=hk c (aT ..)
  rw [iE,Br,bR,Tm _ _ (by omega)]
  rfl
 | c::css,j+1,hk,h,hf=>by
  have hc:=hk c (aT ..)
  have ih:=Dr (x:=x) css j (fun cs hcs=>hk cs (aS _ hcs)) (by simpa using h) hf
  have e:(j+1) * k+f=c.length+(j * k+f):=by rw [lu,hc]; omega
  rw [iE,e,List.set_append_right _ _ (by omega),oR,ih]
  rfl
theorem L0 (c:Array Value) (p:Nat) (x:Value) (h:p<c.size):(bl c p [x]).toList=c.toList.set p x:=by
 unfold bl
 rw [Gx,ai (by simpa using h)]
 simp
theorem Rows.set {α:Type} {k:Nat} {R:List Value->α->Prop} {css:List (List Value)} {ys:List α} (h:Rows k R css ys) {cs:List Value} {y:α} (j:Nat) (hR:R cs y) (hl:cs.length=k):Rows k R (css.set j cs) (ys.set j y):=by
 refine ⟨by rw [oc,oc,h.hc],fun c hc=>?_,fun i h0 h2=>?_⟩
 ·rcases xi hc with hc|rfl
  ·exact h.hk c hc
  ·exact hl
 ·rw [List.getElem_set,List.getElem_set]
  split
  ·exact hR
  ·exact h.hR i (by simpa using h0) (by simpa using h2)
theorem Rows.take {α:Type} {k:Nat} {R:List Value->α->Prop} {css:List (List Value)} {ys:List α} (h:Rows k R css ys) (n:Nat):Rows k R (css.take n) (ys.take n):=by
 have:=h.hc
 refine ⟨by rw [dK,dK,h.hc],fun c hc=>h.hk c (xU hc),fun i h0 h2=>?_⟩
 rw [dK] at h0
 simp only [DP]
 exact h.hR i (by omega) (by omega)
theorem yB {k:Nat}:∀ (css:List (List Value)) (n:Nat) (_:∀ cs∈css,cs.length=k),css.flatten.take (n * k)=(css.take n).flatten
 | [],n,_=>by simp
 | c::css,0,_=>by simp
 | c::css,n+1,hk=>by
  have hc:=hk c (aT ..)
  have ih:=yB css n fun cs hcs=>hk cs (aS _ hcs)
  rw [iE,lu,qy,List.take_append,AQ (by omega),hc,oR,ih]
  rfl
def YU (v:Value) (h:Nat):Value:=match v with
 | .slice a _ cap=>.slice a h cap
 | v=>v
section
variable {P:Program} {w w0:World} {X:List Nat} {L:List Item} {S:af} {K:Value->World->Prop}
attribute [local irreducible] Run CondV aw aN
theorem Inv.swapItem (h:Inv w0 X L S w) {i:Nat} {a b:Item} (hi:L[i]?=some a) (hf:b.foot=a.foot) (hb:b.holds w):Inv w0 X (L.set i b) S w:=by
 have hl:=(fG.1 hi).1
 have hfe:bI (L.set i b)=bI L:=by
  have e:L.map Item.foot=(L.set i b).map Item.foot:=by
   rw [List.map_set,hf]
   apply wv
   intro j
   rw [wq]
   split
   ·rename_i e
    subst e
    rw [ai (by simpa using hl),We,hi]
    rfl
   ·rfl
  unfold bI
  rw [List.flatMap_def,List.flatMap_def]
  congr 1
  rw [List.map_set]
  apply wv
  intro j
  rw [wq]
  split
  ·rename_i e
   subst e
   rw [ai (by simpa using hl),We,hi]
   simp [hf]
  ·rfl
 refine ⟨h.size,h.os,h.tape,h.output,h.old,fun it hit=>?_,by rw [hfe]; exact h.nd,by rw [hfe]; exact h.new,by rw [hfe]; exact h.pub⟩
 rcases xi hit with hit|rfl
 ·exact h.its it hit
 ·exact hb
theorem Inv.rowSlice' (h:Inv w0 X L S w) {i k n:Nat} {e:TypeId} {v:Value} {xs:List Value} (hi:L[i]?=some (.row v e k n xs)):∃ a cap,v=.slice a n cap/\n<=cap:=by
 have hm:w.ownsRow 0 e k v n xs:=h.its (.row v e k n xs) (b0 hi)
 rcases hm.2 with ⟨rfl,hn⟩|⟨g,cap,cur,rfl,_,_,hn,_⟩
 ·exact ⟨_,_,by rw [hn],by omega⟩
 ·exact ⟨_,_,rfl,hn⟩
theorem Inv.cutRow (h:Inv w0 X L S w) {i k:Nat} {e:TypeId} {v:Value} {css:List (List Value)} (hi:L[i]?=some (aJ v e k css)) {n:Nat} (hn:n<=css.length) (hk:∀ cs∈css,cs.length=k):Inv w0 X (L.set i (aJ (YU v n) e k (css.take n))) S w:=by
 have hm:w.ownsRow 0 e k v css.length css.flatten:=h.its _ (b0 hi)
 refine h.swapItem hi ?_ ?_
 ·obtain ⟨a,cap,rfl,_⟩:=h.rowSlice' hi
  cases a <;> rfl
 ·show w.ownsRow 0 e k (YU v n) (css.take n).length (css.take n).flatten
  have hl:(css.take n).length=n:=by rw [dK]; omega
  refine ⟨ll fun cs hc=>hk cs (xU hc),?_⟩
  rcases hm.2 with ⟨rfl,h0⟩|⟨g,cap,cur,rfl,h1,h2,h3,h4,h5,h6⟩
  ·left
   have:n=0:=by omega
   subst this
   exact ⟨rfl,by simp⟩
  ·right
   refine ⟨g,cap,cur,by rw [hl]; rfl,h1,h2,by omega,h4,h5,?_⟩
   rw [hl,<- yB css n hk,<- h6,mJ,kD (jr k hn)]
theorem Sh (h:Inv w0 X L S w) (i:Nat) {T ty e:TypeId} {k n m:Nat} {v:Value} {xs:List Value} (hi:L[i]?=some (.row v e k m xs)) (hT:cL P T=some (e,k)) (hn:n<=m) (hk:K (YU v n) w) :
  Run P (sOp (.slice T (.const v) none (some (.const (.int .i64 n))) none) ty) w K:=by
 obtain ⟨a,cap,rfl,hc⟩:=h.rowSlice' hi
 refine xV hT (by omega) ?_
 cases a with
 | none=>split <;> exact hk
 | some a=>
  split
  ·exact hk
  ·obtain ⟨b,o,p⟩:=a
   have hm:w.ownsRow 0 e k (.slice (some ⟨b,o,p⟩) m cap) m xs:=h.its _ (b0 hi)
   rcases hm.2 with ⟨h0,_⟩|⟨g,cap',cur,h0,_⟩
   ·cases h0
   ·cases h0
    simpa [fx,YU] using hk
theorem Inv.rowPtr (h:Inv w0 X L S w) {i k:Nat} {e:TypeId} {v:Value} {css:List (List Value)} (hi:L[i]?=some (aJ v e k css)) {j:Nat} (hj:j<css.length) (hk:∀ cs∈css,cs.length=k) :
  ∃ g cap,v=.slice (some ⟨g,0,none⟩) css.length cap/\(∀ f u,css[j][f]?=some u->w.cell? ⟨g,j * k+f,none⟩=some u):=by
 have hm:w.ownsRow 0 e k v css.length css.flatten:=h.its _ (b0 hi)
 rcases hm.2 with ⟨_,h0⟩|⟨g,cap,cur,rfl,h1,h2,h3,h4,h5,h6⟩
 ·omega
 ·refine ⟨g,cap,rfl,fun f u hf=>?_⟩
  rw [cell_of_row w g (j * k+f) cur e (0,0) h2]
  have hfl:=gK k css j hk hj
  have hfk:f<k:=by have:=(fG.1 hf).1; have:=hk _ (bA hj); omega
  rw [<- hfl,uj,ai hfk,Ax,<- h6,uj] at hf
  split at hf
  ·simpa using hf
  ·cases hf
theorem HO (h:Inv w0 X L S w) {T ty e:TypeId} (i:Nat) {g cap k j f a:Nat} {css:List (List Value)} {x:Value} (hi:L[i]?=some (aJ (.slice (some ⟨g,0,none⟩) css.length cap) e k css)) (hT:kC P T=true) (hj:j<css.length) (hf:f<k) (ha:a=j * k+f)
  (hkl:∀ cs∈css,cs.length=k) (hx:x.cells=#[x]) (h1:x.oneCell'=true)
  (hk:∀ w',Inv w0 X (L.set i (aJ (.slice (some ⟨g,0,none⟩) css.length cap) e k (css.set j (css[j].set f x)))) S w'->K undef w') :
  Run P (sOp (.store T (.const (.pointer (some ⟨g,a,none⟩))) (.const x)) ty) w K:=by
 subst ha
 have hil:=(fG.1 hi).1
 have hie:=(fG.1 hi).2
 have hp:List.Perm L ((L.take i++L.drop (i+1))++[aJ (.slice (some ⟨g,0,none⟩) css.length cap) e k css]):=by
  conv=>lhs; rw [<- xg i L,cZ hil,hie]
  rw [eW]
  exact CJ _ (cu (l₁:=[_]))
 have hI:=h.perm hp.symm
 obtain ⟨_,ho⟩:=Inv.openRow hI
 rcases ho with ⟨h0,_⟩|⟨g',cap',cur,h0,hnc,hcm,hcs,ht,hI⟩
 ·cases h0
 cases h0
 have hlt:j * k+f<css.length * k:=by
  have:(j+1) * k<=css.length * k:=jr k hj
  rw [lu] at this
  omega
 have hcap:css.length * k<=cap * k:=jr k hnc
 refine c8 hI (L.take i++L.drop (i+1)).length (n:=1) (by rw [hx]; rfl) (by rw [hT]; rfl) (by rw [ir (aR _),eD]; rfl) (by omega) (by rw [hx]; simpa using h1) fun w' hI=>hk w' ?_
 rw [List.set_append_right _ _ (aR _),eD] at hI
 have hI:Inv w0 X ((L.take i++L.drop (i+1))++[.blk g (.cells (bl cur (j * k+f) x.cells.toList) e)]) S w':=hI
 rw [show x.cells.toList=[x] by rw [hx]] at hI
 have hI:=Inv.closeRow (n:=css.length) (cap:=cap) (k:=k) hI hnc hcm (by rw [eV _ _ _ (by simp; omega)]; exact hcs)
 rw [L0 _ _ _ (by omega),List.take_set,ht,Dr css j hkl hj hf] at hI
 refine hI.perm ?_
 rw [Gx,ai hil,eW]
 refine CJ _ ?_
 rw [show Item.row (.slice (some ⟨g,0,none⟩) css.length cap) e k css.length (css.set j (css[j].set f x)).flatten=aJ (.slice (some ⟨g,0,none⟩) css.length cap) e k (css.set j (css[j].set f x)) by simp [aJ]]
 exact (cu (l₁:=[_]))
end
end
end Go.Proofs.YtgllldjiaglkcaaGreatDoor
