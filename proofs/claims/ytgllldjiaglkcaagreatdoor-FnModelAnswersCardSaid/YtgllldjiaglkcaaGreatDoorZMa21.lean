/- impl's search finds what is there: where a run ends with nothing left to try, each solution is an instance of an answer. No program in sight. -/
import Derived.Test.YtgllldjiaglkcaaGreatDoorZMa20
import Derived.Test.YtgllldjiaglkcaaGreatDoorZMa16
import Derived.Test.YtgllldjiaglkcaaGreatDoorZMa5
import Derived.Test.YtgllldjiaglkcaaGreatDoorZMa3
import Derived.Test.YtgllldjiaglkcaaGreatDoorZMa7
namespace Go.Proofs.YtgllldjiaglkcaaGreatDoor
section
open Go Go.RowKit
def Mt (p:List C) (P:T->Prop) (t:T) (i:Int):Prop:=∃ cl τ,p[i.toNat]?=some cl/\sbT τ cl.head=t/\∀ b∈cl.body,P (sbT τ b)
structure aaM (p:List C) (P:T->Prop):Prop where
 cl:∀ t,P t->fw t=false->cz t=false->∃ i∈iz p t,Mt p P t i
 blt:∀ (st st':ao) (t:T) (c:Int) (σ:Int->T),Good st.length st->(okU st.length t/\wT t<=1048576)->cz t=true->je σ st->P (sbT σ t)->Blt st t c st'->c≠1/\(c=0->je σ st')
theorem TryI.cov {p:List C} {P:T->Prop} (hp:∀ cl∈p,jP cl) {g:T} {l:List Int} {st:ao} {o:Option HI} {n:Nat} (h:TryI p g l st o n):Good st.length st->(okU st.length g/\wT g<=1048576)->
  ∀ σ,je σ st->∀ i∈l,Mt p P (sbT σ g) i->∃ r,o=some r/\((∃ σ':Int->T,(∀ k:Int,0<=k->k<st.length->σ k=σ' k)/\je σ' r.st/\∀ b∈r.cl.body,P (sbT σ' (cW r.by_ b))) ∨ i∈r.l):=by
 induction h with
 | nil=>intro _ _ σ _ i hi; cases hi
 | @hit j l cl st st' hj hu=>
  intro hg ho σ hs i hi hm
  have hcl:=hp _ (b0 hj)
  rcases bG.1 hi with rfl|hi
  ·obtain ⟨cl',τ,hc,he,hb⟩:=hm
   rw [cV,hj] at hc
   cases hc
   refine ⟨_,rfl,.inl ⟨Om st.length σ τ,zD σ τ,?_,?_⟩⟩
   ·refine ((hu.sem hg.g26 (Lr ho hcl) (Om st.length σ τ)).1 rfl).2 ⟨(kr _ st 26).2 (GC hg (zD σ τ) hs),?_⟩
    show sbT _ g=sbT _ (cW _ cl.head)
    rw [LR σ τ hcl.head.1.1,he]
    exact (ma (zD σ τ) g ho.1).symm
   ·intro b hb'
    show P (sbT (Om st.length σ τ) (cW st.length b))
    rw [LR σ τ (hcl.body b hb').1.1]
    exact hb b hb'
  ·exact ⟨_,rfl,.inr hi⟩
 | @miss j l cl st st' o n hj hu _ ih=>
  intro hg ho σ hs i hi hm
  have hcl:=hp _ (b0 hj)
  have hlen:=lZ st
  rcases bG.1 hi with rfl|hi
  ·obtain ⟨cl',τ,hc,he,hb⟩:=hm
   rw [cV,hj] at hc
   cases hc
   refine absurd ?_ ((hu.sem hg.g26 (Lr ho hcl) (Om st.length σ τ)).2 rfl ((kr _ st 26).2 (GC hg (zD σ τ) hs)))
   show sbT _ g=sbT _ (cW _ cl.head)
   rw [LR σ τ hcl.head.1.1,he]
   exact (ma (zD σ τ) g ho.1).symm
  ·obtain ⟨r,hr,hcase⟩:=ih (by rw [hlen]; exact hg.g26) (by rw [hlen]; exact ⟨gZ (qT ..) _ ho.1,ho.2⟩) σ ((kr _ st 26).2 hs) i hi hm
   refine ⟨r,hr,?_⟩
   rcases hcase with ⟨σ',h1,h2⟩|h2
   ·exact .inl ⟨σ',fun k h0 hk=>h1 k h0 (by omega),h2⟩
   ·exact .inr h2
def ZR (Q:(Int->T)->Prop):Prop:=∀ σ τ:Int->T,(∀ n:Int,0<=n->n<26->σ n=τ n)->Q σ->Q τ
def aci (P:T->Prop) (Q:(Int->T)->Prop) (st:ao) (gs:List GI):Prop:=26<=st.length/\∃ σ,je σ st/\Q σ/\∀ g∈gs,P (sbT σ g.t)
def ZJ (p:List C) (P:T->Prop) (Q:(Int->T)->Prop) (c:CI):Prop:=26<=c.binds.length/\∃ σ,je σ c.binds/\Q σ/\(∀ g∈c.rest,P (sbT σ g.t))/\∃ i∈c.left,Mt p P (sbT σ c.goal) i
def RH (p:List C) (P:T->Prop) (Q:(Int->T)->Prop) (s:SI):Prop:=aci P Q s.st s.goals ∨ ∃ c∈s.chs,ZJ p P Q c
theorem Hp {p:List C} {P:T->Prop} {Q:(Int->T)->Prop} (hQ:ZR Q) (hp:∀ cl∈p,jP cl) {g:T} {l:List Int} {b:ao} {o:Option HI} {n:Nat} (h:TryI p g l b o n) (hg:Good b.length b) (ht:tabM b) (ho:(okU b.length g/\wT g<=1048576)/\okM g) (h26:26<=b.length)
  {rest:List GI} (hr:∀ x∈rest,okGI b.length x) {σ:Int->T} (hs:je σ b) (hq:Q σ) (hP:∀ x∈rest,P (sbT σ x.t)) {i:Int} (hi:i∈l) (hm:Mt p P (sbT σ g) i):∃ r,o=some r/\∀ cs ns at_,RH p P Q (i7 cs ns g at_ rest b r):=by
 obtain ⟨r,rfl,hcase⟩:=h.cov hp hg ho.1 σ hs i hi hm
 obtain ⟨_,_,h3⟩:=h.ok hp hg ht ho
 obtain ⟨_,_,a3,a4,_⟩:=h3 r rfl
 refine ⟨r,rfl,fun cs ns at_=>?_⟩
 rcases hcase with ⟨σ',h1,h2,h3⟩|h2
 ·refine .inl ⟨by show 26<=r.st.length; omega,σ',h2,hQ σ σ' (fun k h0 hk=>h1 k h0 (by omega)) hq,fun x hx=>?_⟩
  have hx':x∈lQ r.cl r.by_ cs.length at_ rest:=hx
  unfold lQ at hx'
  rcases bJ.1 hx' with hx'|hx'
  ·obtain ⟨t,ht,rfl⟩:=eF.1 hx'
   exact h3 t ht
  ·rw [<- ma h1 x.t (hr x hx').1.1.1]
   exact hP x hx'
 ·refine .inr ⟨⟨g,at_,rest,r.l,b,ns.length⟩,?_,h26,σ,hs,hq,hP,i,h2,hm⟩
  show _∈cs++(if r.l=[] then [] else [(⟨g,at_,rest,r.l,b,ns.length⟩:CI)])
  rw [ah (fun e=>by rw [e] at h2; cases h2)]
  simp
theorem Pu {cs:List CI} {ns:List NI} {g:T} {a:Int} {rest:List GI} {b:ao} {r:HI} {c:CI} (h:c∈cs):c∈(i7 cs ns g a rest b r).chs:=dg _ h
theorem BackI.cov {p:List C} {P:T->Prop} {Q:(Int->T)->Prop} (hQ:ZR Q) (hp:∀ cl∈p,jP cl) {cs:List CI} {n:Nat} {ns:List NI} {o:Option SI} (h:BackI p cs n ns o):okCs p.length n ns.length cs->(∃ c∈cs,ZJ p P Q c)->∃ s,o=some s/\RH p P Q s:=by
 have key:∀ {cs:List CI} {c:CI} {n m:Nat} {ns:List NI} {o:Option HI},TryI p c.goal c.left (cA c.binds n) o m->okCs p.length n ns.length (cs++[c])->ZJ p P Q c->∃ r,o=some r/\∀ cs ns at_,RH p P Q (i7 cs ns c.goal at_ c.rest (cA c.binds n) r):=by
  intro cs c n m ns o ht hcs hc
  obtain ⟨h1,h2,h3,h4⟩:=hcs.last
  obtain ⟨g1,g2,g3,g4⟩:=h2.grow h3
  obtain ⟨k1,σ,k2,k3,k4,i,k5,k6⟩:=hc
  have hl:=dz h3
  exact Hp hQ hp ht g1 g2 g3 (by omega) (fun x hx=>(g4 x hx).1) ((kr σ c.binds _).2 k2) k3 k4 k5 k6
 induction h with
 | nil=>rintro _ ⟨c,hc,_⟩; cases hc
 | @hit cs c n m ns r ht=>
  rintro hcs ⟨d,hd,hcov⟩
  refine ⟨_,rfl,?_⟩
  rcases bJ.1 hd with hd|hd
  ·exact .inr ⟨d,Pu hd,hcov⟩
  ·rw [bL.1 hd] at hcov
   obtain ⟨r',e,k⟩:=key ht hcs hcov
   cases e
   exact k _ _ _
 | @miss cs c n m ns o ht _ ih=>
  rintro hcs ⟨d,hd,hcov⟩
  obtain ⟨h1,h2,h3,h4⟩:=hcs.last
  obtain ⟨g1,g2,g3,g4⟩:=h2.grow h3
  obtain ⟨k1,_,_⟩:=ht.ok hp g1 g2 g3
  have hl:=dz h3
  rw [hl] at k1
  have hlt:(ns.take c.taken).length=c.taken:=by rw [dK]; omega
  rcases bJ.1 hd with hd|hd
  ·exact ih (by rw [hlt]; exact h1.mono k1 (aR _)) ⟨d,hd,hcov⟩
  ·rw [bL.1 hd] at hcov
   obtain ⟨r',e,k⟩:=key ht hcs hcov
   cases e
structure HdP (R:T->Prop):Prop where
 hd:∀ t u,R t->sameHd t u->R u
 three:∀ t,R t->t.kind=3
structure Nc (R:T->Prop) (s:SI):Prop where
 goals:∀ g∈s.goals,R g.t
 chs:∀ c∈s.chs,∀ g∈c.rest,R g.t
def ncT (t:T):Prop:=t.kind=3/\fw t=false
theorem ncT.hd {t u:T} (h:ncT t) (hs:sameHd t u):ncT u:=⟨by rw [hs.1]; exact h.1,by rw [mh hs]; exact h.2⟩
theorem XR:HdP ncT:=⟨fun _ _ h hs=>h.hd hs,fun _ h=>h.1⟩
section
variable {R:T->Prop} (hR:HdP R)
include hR
theorem HdP.shift {t:T} (h:R t) (m:Int):R (cW m t):=hR.hd t _ h (sameHd.shift m t (by have:=hR.three t h; omega))
theorem Un {p:List C} (hb:∀ cl∈p,∀ b∈cl.body,R b) {cs:List CI} {ns:List NI} {g:T} {a:Int} {rest:List GI} {b:ao} {r:HI} (hr:r.cl∈p) (h1:∀ c∈cs,∀ g∈c.rest,R g.t) (h2:∀ g∈rest,R g.t):Nc R (i7 cs ns g a rest b r):=by
 refine ⟨fun x hx=>?_,fun c hc=>?_⟩
 ·have hx':x∈lQ r.cl r.by_ cs.length a rest:=hx
  unfold lQ at hx'
  rcases bJ.1 hx' with hx'|hx'
  ·obtain ⟨t,ht,rfl⟩:=eF.1 hx'
   exact hR.shift (hb _ hr t ht) _
  ·exact h2 x hx'
 ·have hc':c∈cs++(if r.l=[] then [] else [(⟨g,a,rest,r.l,b,ns.length⟩:CI)]):=hc
  rcases bJ.1 hc' with hc'|hc'
  ·exact h1 c hc'
  ·split at hc'
   ·cases hc'
   ·rw [bL.1 hc']; exact h2
omit hR in
theorem TryI.mem {p:List C} {g:T} {l:List Int} {st:ao} {o:Option HI} {n:Nat} (h:TryI p g l st o n):∀ r,o=some r->r.cl∈p:=by
 induction h with
 | nil=>intro r h; cases h
 | hit hi _=>intro r h; cases h; exact b0 hi
 | miss _ _ _ ih=>exact ih
theorem BackI.nc {p:List C} (hb:∀ cl∈p,∀ b∈cl.body,R b) {cs:List CI} {n:Nat} {ns:List NI} {o:Option SI} (h:BackI p cs n ns o):(∀ c∈cs,∀ g∈c.rest,R g.t)->∀ s,o=some s->Nc R s:=by
 induction h with
 | nil=>intro _ s h; cases h
 | hit ht=>
  intro h1 s h
  cases h
  exact Un hR hb (ht.mem _ rfl) (fun c hc=>h1 c (dg _ hc)) (h1 _ (by simp))
 | miss ht _ ih=>intro h1; exact ih fun c hc=>h1 c (dg _ hc)
theorem StepI.nc {p:List C} (hb:∀ cl∈p,∀ b∈cl.body,R b) {s:SI} {o:Option SI} {e:Int} {nc:Bool} (h:StepI p nc s o e) (hs:Nc R s):∀ s',o=some s'->Nc R s':=by
 have tl:∀ {g:GI} {gs:List GI},s.goals=g::gs->∀ x∈gs,R x.t:=fun hg x hx=>hs.goals x (by rw [hg]; exact aS _ hx)
 cases h with
 | large=>intro s' h; cases h
 | noCut=>intro s' h; cases h
 | err=>intro s' h; cases h
 | unknown=>intro s' h; cases h
 | cut hg=>intro s' h; cases h; exact ⟨tl hg,fun c hc=>hs.chs c (xU hc)⟩
 | solved hg=>intro s' h; cases h; exact ⟨tl hg,hs.chs⟩
 | fail hg _ _ _ _ _ ho=>exact ho.nc hR hb hs.chs
 | took hg _ _ _ _ _ hT=>intro s' h; cases h; exact Un hR hb (hT.mem _ rfl) hs.chs (tl hg)
 | back hg _ _ _ _ _ _ ho=>exact ho.nc hR hb hs.chs
end
theorem StepI.cov {p:List C} {P:T->Prop} {Q:(Int->T)->Prop} (hQ:ZR Q) (hp:∀ cl∈p,jP cl) (hS:aaM p P) {s:SI} {o:Option SI} {e:Int} (h:StepI p false s o e) (hs:sx p.length s) (hn:Nc ncT s) (hc:RH p P Q s):(∀ s',o=some s'->RH p P Q s')/\(o=none->e≠0):=by
 have first:∀ {g:GI} {gs:List GI} {t:T},s.goals=g::gs->Res s.st (.one g.t t)->cq t=true->((okU s.st.length t/\wT t<=1048576)/\okM t)/\fw t=false/\∀ σ,je σ s.st->sbT σ t=sbT σ g.t:=by
  intro g gs t hg ht hsm
  have hg1:=hs.goals g (by rw [hg]; simp)
  obtain ⟨hut,hmt⟩:=qC hs.good hg1.1.1 hs.tab ht
  have hw:=gG hsm hut
  have h3:=hn.goals g (by rw [hg]; simp)
  exact ⟨⟨⟨hut,by omega⟩,hmt⟩,(h3.hd (Ca ht (by have:=h3.1; omega))).2,fun σ hσ=>MY hs.good hσ ht hg1.1.1.1.1⟩
 have backs:∀ {m:Nat} {x:NI} {o:Option SI},s.st.length<=m->BackI p s.chs m (s.nodes++[x]) o->(∃ c∈s.chs,ZJ p P Q c)->(∀ s',o=some s'->RH p P Q s')/\(o=none->(if o.isSome then (-1:Int) else 0)≠0):=by
  intro m x o hm ho hcc
  obtain ⟨s',rfl,h2⟩:=ho.cov hQ hp ((gw hs.chs x).mono hm (aR _)) hcc
  exact ⟨fun s'' e=>by cases e; exact h2,fun e=>by cases e⟩
 cases h with
 | large=>exact ⟨fun s' h=>(by cases h),fun _=>by decide⟩
 | noCut _ _ _ _ h=>cases h
 | err _ _ _ _ _ _ h0 _=>
  refine ⟨fun s' h=>(by cases h),fun _=>?_⟩
  unfold TB
  split
  ·decide
  split
  ·decide
  split <;> decide
 | unknown=>exact ⟨fun s' h=>(by cases h),fun _=>by decide⟩
 | cut hg ht hsm hcu _=>
  have:=(first hg ht hsm).2.1
  rw [hcu] at this
  cases this
 | @solved g gs t st hg ht hsm hcu hb hB=>
  refine ⟨fun s' h=>?_,fun h=>by cases h⟩
  cases h
  obtain ⟨ho,_,he⟩:=first hg ht hsm
  rcases hc with ⟨c1,σ,c2,c3,c4⟩|hc
  ·have hl:=(hB.good hs.good hb ho.1).len
   refine .inl ⟨by show 26<=st.length; omega,σ,?_,c3,fun x hx=>c4 x (by rw [hg]; exact aS _ hx)⟩
   exact (hS.blt _ _ t 0 σ hs.good ho.1 hb c2 (by rw [he σ c2]; exact c4 g (by rw [hg]; simp)) hB).2 rfl
  ·exact .inr hc
 | @fail g gs t st o hg ht hsm hcu hb hB ho=>
  obtain ⟨hok,_,he⟩:=first hg ht hsm
  rcases hc with ⟨c1,σ,c2,c3,c4⟩|hc
  ·exact absurd rfl (hS.blt _ _ t 1 σ hs.good hok.1 hb c2 (by rw [he σ c2]; exact c4 g (by rw [hg]; simp)) hB).1
  ·exact backs (aR _) ho hc
 | @took g gs t r m hg ht hsm hcu hb hf hT=>
  refine ⟨fun s' h=>?_,fun h=>by cases h⟩
  cases h
  obtain ⟨hok,_,he⟩:=first hg ht hsm
  rcases hc with ⟨c1,σ,c2,c3,c4⟩|⟨c,hc,hcc⟩
  ·have hP:=c4 g (by rw [hg]; simp)
   rw [<- he σ c2] at hP
   have hsd:sameHd t (sbT σ t):=by
    have h3:=hn.goals g (by rw [hg]; simp)
    have hk:t.kind≠1:=by have:=(h3.hd (Ca ht (by have:=h3.1; omega))).1; omega
    rw [eH σ hk]
    exact ⟨rfl,rfl,by simp [T.kids,kK]⟩
   obtain ⟨i,hi,hm⟩:=hS.cl _ hP (by rw [mh hsd]; exact hcu) (by rw [jk hsd]; exact hb)
   have hi':i∈iz p t:=by
    unfold iz at hi ⊢
    rwa [nT hsd] at hi
   obtain ⟨r',e,k⟩:=Hp hQ hp hT hs.good hs.tab hok c1 (fun x hx=>(hs.goals x (by rw [hg]; exact aS _ hx)).1) c2 c3 (fun x hx=>c4 x (by rw [hg]; exact aS _ hx)) hi' hm
   cases e
   exact k _ _ _
  ·exact .inr ⟨c,Pu hc,hcc⟩
 | @back g gs t m o hg ht hsm hcu hb hf hT ho=>
  obtain ⟨hok,_,he⟩:=first hg ht hsm
  rcases hc with ⟨c1,σ,c2,c3,c4⟩|hc
  ·have hP:=c4 g (by rw [hg]; simp)
   rw [<- he σ c2] at hP
   have hsd:sameHd t (sbT σ t):=by
    have h3:=hn.goals g (by rw [hg]; simp)
    have hk:t.kind≠1:=by have:=(h3.hd (Ca ht (by have:=h3.1; omega))).1; omega
    rw [eH σ hk]
    exact ⟨rfl,rfl,by simp [T.kids,kK]⟩
   obtain ⟨i,hi,hm⟩:=hS.cl _ hP (by rw [mh hsd]; exact hcu) (by rw [jk hsd]; exact hb)
   have hi':i∈iz p t:=by
    unfold iz at hi ⊢
    rwa [nT hsd] at hi
   obtain ⟨r',e,k⟩:=Hp (rest:=gs) hQ hp hT hs.good hs.tab hok c1 (fun x hx=>(hs.goals x (by rw [hg]; exact aS _ hx)).1) c2 c3 (fun x hx=>c4 x (by rw [hg]; exact aS _ hx)) hi' hm
   cases e
  ·exact backs (hT.ok hp hs.good hs.tab hok).1 ho hc
theorem RunI.keeps {p:List C} {vars:List Int} {most n:Nat} {s:SI} {out:List (List T)} {r:List (List T) × Int} (h:RunI p vars most n s out r):∀ x∈out,x∈r.1:=by
 induction h with
 | fuel=>exact fun x hx=>hx
 | stop=>exact fun x hx=>hx
 | more=>exact fun x hx=>hx
 | large=>exact fun x hx=>hx
 | step _ _ _ ih=>exact ih
 | last=>exact fun x hx=>dg _ hx
 | next _ _ _ _ _ ih=>exact fun x hx=>ih x (dg _ hx)
theorem P0 (σ:Int->T):∀ l:List Int,sbL σ (l.map Q5)=l.map σ
 | []=>rfl
 | n::l=>by
  rw [lx,sbL,P0 σ l,Q5,sbT,ai rfl]
  rfl
theorem ValsI.inst {st:ao} (hg:Good st.length st) {vars:List Int} (hv:∀ n∈vars,0<=n/\n<st.length) {vs:List T} (h:ValsI st vars (some vs)) {σ:Int->T} (hs:je σ st):∃ ρ,sbL ρ vs=vars.map σ:=by
 obtain ⟨us,hus,ho⟩:=h
 split at ho
 ·cases ho
  obtain ⟨ρ,hρ⟩:=Vm us σ
  refine ⟨ρ,?_⟩
  have hok:de st.length (vars.map Q5):=qP fun t ht=>by
   obtain ⟨n,hn,rfl⟩:=eF.1 ht
   exact s7 (hv n hn)
  rw [hρ,MY hg hs hus hok,P0]
 ·cases ho
theorem RunI.cov {p:List C} {P:T->Prop} (hp:∀ cl∈p,jP cl) (hS:aaM p P) (hb:∀ cl∈p,∀ b∈cl.body,ncT b) {vars:List Int} {θ:Int->T} (hv:∀ n∈vars,0<=n/\n<26) {most n:Nat} {s:SI} {out:List (List T)} {r:List (List T) × Int} (h:RunI p vars most n s out r) :
  sx p.length s->Nc ncT s->RH p P (fun σ=>∀ n∈vars,σ n=θ n) s->r.2=0->∃ vs∈r.1,∃ ρ,sbL ρ vs=vars.map θ:=by
 have hQ:ZR fun σ:Int->T=>∀ n∈vars,σ n=θ n:=fun σ τ he h n hn=>by rw [<- he n (hv n hn).1 (hv n hn).2]; exact h n hn
 have ans:∀ {s:SI} {vs:List T},sx p.length s->aci P (fun σ=>∀ n∈vars,σ n=θ n) s.st s.goals->ValsI s.st vars (some vs)->∃ ρ,sbL ρ vs=vars.map θ:=by
  intro s vs hs hc hval
  obtain ⟨c1,σ,c2,c3,_⟩:=hc
  obtain ⟨ρ,hρ⟩:=hval.inst hs.good (fun n hn=>⟨(hv n hn).1,by have:=(hv n hn).2; omega⟩) c2
  exact ⟨ρ,hρ.trans (List.map_congr_left c3)⟩
 induction h with
 | fuel=>intro _ _ _ h; cases h
 | more=>intro _ _ _ h; cases h
 | large=>intro _ _ _ h; cases h
 | stop _ hst=>intro hs hn hc h; exact absurd h ((hst.cov hQ hp hS hs hn hc).2 rfl)
 | step _ hst _ ih=>
  intro hs hn hc h
  exact ih (hst.ok hp hs _ rfl).1 (hst.nc XR hb hn _ rfl) ((hst.cov hQ hp hS hs hn hc).1 _ rfl) h
 | last _ _ hval hbk=>
  intro hs hn hc h
  rcases hc with hc|hc
  ·exact ⟨_,gA _ (bL.2 rfl),ans hs hc hval⟩
  ·obtain ⟨_,e,_⟩:=hbk.cov hQ hp hs.chs hc
   cases e
 | next _ _ hval hbk hr ih=>
  intro hs hn hc h
  rcases hc with hc|hc
  ·exact ⟨_,hr.keeps _ (gA _ (bL.2 rfl)),ans hs hc hval⟩
  ·obtain ⟨_,e,h2⟩:=hbk.cov hQ hp hs.chs hc
   cases e
   exact ih (hbk.ok hp hs.chs _ rfl).1 (hbk.nc XR hb hn.chs _ rfl) h2 h
end
section
open Go Go.RowKit
def Snd (M:T->Prop) (q:T) (st:ao) (gs:List T):Prop:=∀ σ,je σ st->(∀ g∈gs,M (sbT σ g))->M (sbT σ q)
def Cls (p:List C) (M:T->Prop):Prop:=∀ cl∈p,∀ τ,(∀ b∈cl.body,M (sbT τ b))->M (sbT τ cl.head)
structure Yc (M:T->Prop) (q:T) (s:SI):Prop where
 cur:Snd M q s.st (s.goals.map GI.t)
 chs:∀ c∈s.chs,Snd M q c.binds (c.goal::c.rest.map GI.t)
def plT (t:T):Prop:=t.kind=3/\fw t=false/\cz t=false
theorem plT_hd:HdP plT:=⟨fun t u h hs=>⟨by rw [hs.1]; exact h.1,by rw [mh hs]; exact h.2.1,by rw [jk hs]; exact h.2.2⟩,fun _ h=>h.1⟩
theorem TryI.snd {p:List C} (hp:∀ cl∈p,jP cl) {g:T} {l:List Int} {st:ao} {o:Option HI} {n:Nat} (h:TryI p g l st o n):Good st.length st->(okU st.length g/\wT g<=1048576)->
  ∀ r,o=some r->∀ σ,je σ r.st->je σ st/\sbT σ g=sbT σ (cW r.by_ r.cl.head):=by
 induction h with
 | nil=>intro _ _ r h; cases h
 | @hit j l cl st st' hj hu=>
  intro hg ho r h σ hs
  cases h
  obtain ⟨k1,k2⟩:=((hu.sem hg.g26 (Lr ho (hp _ (b0 hj))) σ).1 rfl).1 hs
  exact ⟨(kr σ st 26).1 k1,k2⟩
 | @miss j l cl st st' o n hj hu _ ih=>
  intro hg ho r h σ hs
  have hlen:=lZ st
  obtain ⟨k1,k2⟩:=ih (by rw [hlen]; exact hg.g26) (by rw [hlen]; exact ⟨gZ (qT ..) _ ho.1,ho.2⟩) r h σ hs
  exact ⟨(kr σ st 26).1 k1,k2⟩
theorem Pc {p:List C} {M:T->Prop} {q:T} (hM:Cls p M) (hp:∀ cl∈p,jP cl) {g:T} {l:List Int} {b:ao} {r:HI} {n:Nat} (h:TryI p g l b (some r) n) (hg:Good b.length b) (ho:okU b.length g/\wT g<=1048576) {cs:List CI} {ns:List NI} {a:Int} {rest:List GI}
  (h1:Snd M q b (g::rest.map GI.t)) (h2:∀ c∈cs,Snd M q c.binds (c.goal::c.rest.map GI.t)):Yc M q (i7 cs ns g a rest b r):=by
 refine ⟨fun σ hs hM'=>?_,fun c hc=>?_⟩
 ·obtain ⟨k1,k2⟩:=h.snd hp hg ho r rfl σ hs
  have hB:∀ x∈(lQ r.cl r.by_ cs.length a rest).map GI.t,M (sbT σ x):=hM'
  unfold lQ at hB
  rw [BD,List.map_map] at hB
  refine h1 σ k1 fun x hx=>?_
  rcases bG.1 hx with rfl|hx
  ·rw [k2,u0]
   refine hM _ (h.mem r rfl) _ fun t ht=>?_
   have:=hB (cW r.by_ t) (dg _ (eF.2 ⟨t,ht,rfl⟩))
   rwa [u0] at this
  ·exact hB x (gA _ hx)
 ·have hc':c∈cs++(if r.l=[] then [] else [(⟨g,a,rest,r.l,b,ns.length⟩:CI)]):=hc
  rcases bJ.1 hc' with hc'|hc'
  ·exact h2 c hc'
  ·split at hc'
   ·cases hc'
   ·rw [bL.1 hc']; exact h1
theorem BackI.snd {p:List C} {M:T->Prop} {q:T} (hM:Cls p M) (hp:∀ cl∈p,jP cl) {cs:List CI} {n:Nat} {ns:List NI} {o:Option SI} (h:BackI p cs n ns o):okCs p.length n ns.length cs->(∀ c∈cs,Snd M q c.binds (c.goal::c.rest.map GI.t))->∀ s,o=some s->Yc M q s:=by
 induction h with
 | nil=>intro _ _ s h; cases h
 | @hit cs c n m ns r ht=>
  intro hcs h1 s h
  cases h
  obtain ⟨k1,k2,k3,k4⟩:=hcs.last
  obtain ⟨g1,g2,g3,g4⟩:=k2.grow k3
  refine Pc hM hp ht g1 g3.1 (fun σ hs=>h1 c (by simp) σ ?_) fun c hc=>h1 c (dg _ hc)
  exact (kr σ c.binds _).1 hs
 | @miss cs c n m ns o ht _ ih=>
  intro hcs h1
  obtain ⟨k1,k2,k3,k4⟩:=hcs.last
  obtain ⟨g1,g2,g3,g4⟩:=k2.grow k3
  obtain ⟨j1,_,_⟩:=ht.ok hp g1 g2 g3
  rw [dz k3] at j1
  have hlt:(ns.take c.taken).length=c.taken:=by rw [dK]; omega
  exact ih (by rw [hlt]; exact k1.mono j1 (aR _)) fun c hc=>h1 c (dg _ hc)
theorem StepI.snd {p:List C} {M:T->Prop} {q:T} (hM:Cls p M) (hp:∀ cl∈p,jP cl) {s:SI} {o:Option SI} {e:Int} {nc:Bool} (h:StepI p nc s o e) (hs:sx p.length s) (hn:Nc plT s) (hc:Yc M q s):∀ s',o=some s'->Yc M q s':=by
 have first:∀ {g:GI} {gs:List GI} {t:T},s.goals=g::gs->Res s.st (.one g.t t)->cq t=true->(((okU s.st.length t/\wT t<=1048576)/\okM t)/\plT t)/\Snd M q s.st (t::gs.map GI.t):=by
  intro g gs t hg ht hsm
  have hg1:=hs.goals g (by rw [hg]; simp)
  obtain ⟨hut,hmt⟩:=qC hs.good hg1.1.1 hs.tab ht
  have hw:=gG hsm hut
  have h3:=hn.goals g (by rw [hg]; simp)
  refine ⟨⟨⟨⟨hut,by omega⟩,hmt⟩,plT_hd.hd _ _ h3 (Ca ht (by have:=h3.1; omega))⟩,fun σ hσ hx=>?_⟩
  refine hc.cur σ hσ fun x hx'=>?_
  rw [hg,lx] at hx'
  rcases bG.1 hx' with rfl|hx'
  ·rw [<- MY hs.good hσ ht hg1.1.1.1.1]
   exact hx t (aT ..)
  ·exact hx x (aS _ hx')
 cases h with
 | large=>intro s' h; cases h
 | noCut=>intro s' h; cases h
 | err=>intro s' h; cases h
 | unknown=>intro s' h; cases h
 | cut hg ht hsm hcu _=>
  have:=(first hg ht hsm).1.2.2.1
  rw [hcu] at this
  cases this
 | solved hg ht hsm _ hb _=>
  have:=(first hg ht hsm).1.2.2.2
  rw [hb] at this
  cases this
 | fail hg ht hsm _ hb _ _=>
  have:=(first hg ht hsm).1.2.2.2
  rw [hb] at this
  cases this
 | took hg ht hsm hcu hb hf hT=>
  intro s' h
  cases h
  obtain ⟨⟨ho,_⟩,hsn⟩:=first hg ht hsm
  exact Pc hM hp hT hs.good ho.1 hsn hc.chs
 | back hg ht hsm hcu hb hf hT ho=>
  obtain ⟨⟨hok,_⟩,_⟩:=first hg ht hsm
  exact ho.snd hM hp ((gw hs.chs _).mono (hT.ok hp hs.good hs.tab hok).1 (aR _)) hc.chs
theorem StepI.ends {p:List C} {s:SI} {o:Option SI} {e:Int} (h:StepI p false s o e) (hn:Nc plT s):o=none->e=3 ∨ e=0 ∨ e=8:=by
 have first:∀ {g:GI} {gs:List GI} {t:T},s.goals=g::gs->Res s.st (.one g.t t)->plT t:=fun hg ht=>by
  have h3:=hn.goals _ (by rw [hg]; exact aT ..)
  exact plT_hd.hd _ _ h3 (Ca ht (by have:=h3.1; omega))
 cases h with
 | large=>exact fun _=>.inl rfl
 | noCut _ _ _ _ h=>cases h
 | err hg ht _ _ hb _ _ _=>
  have:=(first hg ht).2.2
  rw [hb] at this
  cases this
 | unknown=>exact fun _=>.inr (.inr rfl)
 | cut=>intro h; cases h
 | solved=>intro h; cases h
 | fail hg ht _ _ hb _ _=>
  have:=(first hg ht).2.2
  rw [hb] at this
  cases this
 | took=>intro h; cases h
 | back=>rintro rfl; exact .inr (.inl rfl)
theorem RunI.snd {p:List C} {M:T->Prop} {q:T} (hM:Cls p M) (hp:∀ cl∈p,jP cl) (hb:∀ cl∈p,∀ b∈cl.body,plT b) {vars:List Int} {most n:Nat} {s:SI} {out:List (List T)} {r:List (List T) × Int} (h:RunI p vars most n s out r) :
  sx p.length s->26<=s.st.length->Nc plT s->Yc M q s->∀ A:List T->Prop,(∀ st vs,Good st.length st->26<=st.length->(∀ σ,je σ st->M (sbT σ q))->ValsI st vars (some vs)->A vs)->(∀ x∈out,A x)->∀ x∈r.1,A x:=by
 induction h with
 | fuel=>exact fun _ _ _ _ _ _ h=>h
 | more=>exact fun _ _ _ _ _ _ h=>h
 | large=>exact fun _ _ _ _ _ _ h=>h
 | stop=>exact fun _ _ _ _ _ _ h=>h
 | step _ hst _ ih=>
  intro hs h26 hn hc A hA ho
  obtain ⟨j1,_,_,_,j5⟩:=hst.ok hp hs _ rfl
  exact ih j1 (by omega) (hst.nc plT_hd hb hn _ rfl) (hst.snd hM hp hs hn hc _ rfl) A hA ho
 | @last n s out vs hg _ hval _=>
  intro hs h26 hn hc A hA ho x hx
  rcases bJ.1 hx with hx|hx
  ·exact ho x hx
  ·rw [bL.1 hx]
   exact hA s.st vs hs.good h26 (fun σ hσ=>hc.cur σ hσ (by rw [hg]; intro g h; cases h)) hval
 | @next n s s' out vs r hg _ hval hbk _ ih=>
  intro hs h26 hn hc A hA ho
  obtain ⟨j1,_,_,j4⟩:=hbk.ok hp hs.chs _ rfl
  refine ih j1 (by omega) (hbk.nc plT_hd hb hn.chs _ rfl) (hbk.snd hM hp hs.chs hc.chs _ rfl) A hA fun x hx=>?_
  rcases bJ.1 hx with hx|hx
  ·exact ho x hx
  ·rw [bL.1 hx]
   exact hA s.st vs hs.good h26 (fun σ hσ=>hc.cur σ hσ (by rw [hg]; intro g h; cases h)) hval
end
section
open Go Go.RowKit
section
attribute [local irreducible] Run CondV aw aN
noncomputable def checkB (p:List C) (x:PF):Bool:=dx p && (abe x && chkF p x)
end
end
section
open Go Go.RowKit
theorem Lm (f:C->Bool):∀ (p:List C) (k j:Nat) (h:j<p.length),f p[j]=true->((k+j:Nat):Int)∈gW f p k
 | [],k,j,h,_=>by simp at h
 | c::p,k,0,h,hf=>by
  rw [gW,ai (by simpa using hf)]
  exact aT ..
 | c::p,k,j+1,h,hf=>by
  have:=Lm f p (k+1) j (by simpa using h) (by simpa using hf)
  rw [show k+1+j=k+(j+1) by omega] at this
  rw [gW]
  split
  ·exact aS _ this
  ·exact this
theorem aai (σ:Int->T) {t:T} (h:t.kind≠1):sameHd t (sbT σ t):=by
 rw [eH σ h]
 exact ⟨rfl,rfl,by simp [T.kids,kK]⟩
theorem OX {t:T} (h:cz t=true):t.kind=3:=by
 rw [cz,bw] at h
 exact of_decide_eq_true h.1
theorem blt_eq {t:T} (hn:t.name=nEq):iR t=.uni (kd t 0) (kd t 1):=by
 unfold iR
 rw [hn,ah (by decide +kernel),ah (by decide +kernel),ai rfl]
theorem P8 {R:T->Prop} {q:List T} (h:∀ t∈q,R t):Nc R (gC q):=by
 refine ⟨fun g hg=>?_,fun c hc=>by cases hc⟩
 obtain ⟨t,ht,rfl⟩:=eF.1 hg
 exact h t ht
end
section
open Go Go.RowKit

def DX (y:T):Prop:=dS y=true/\y.kids=[]/\y.kind≠1
def Fct (x:T):Prop:=x.kind=3/\dS x=true/\∀ y∈x.kids,DX y
def Gl (g:T):Prop:=g.kind=3/\dS g=true/\∀ y∈g.kids,dS y=true/\y.kids=[]
def StF (st:ao):Prop:=st.length=26/\∀ t,some t∈st->DX t
def bnd (st:ao) (n:Int):Prop:=∃ t,st[n.toNat]?=some (some t)
theorem TL {s:ByteArray} (h:lN s=true):s.size<=6:=by
 rw [lN,jC] at h
 rcases h with h|h
 ·rw [mM] at h
  simp only [bw,bk] at h
  exact h.2.2
 ·simp only [Gq,bk] at h
  obtain ⟨x,hx,rfl⟩:=h
  have:∀ y∈signs,y.size<=6:=by decide +kernel
  exact this x hx
theorem Cf {t:T} (h:dS t=true):t.name.size<=6/\t.kids.length<=4:=by
 unfold dS at h
 have he:emptyB.size=0:=by decide +kernel
 by_cases e1:t.kind=1
 ·rw [ai e1] at h
  simp only [bw,bk] at h
  rw [h.2.2.1]; omega
 ·rw [ah e1] at h
  by_cases e2:t.kind=2
  ·rw [ai e2] at h
   simp only [bw,bk] at h
   rw [h.2.2.1]; omega
  ·rw [ah e2] at h
   by_cases e3:t.kind=3
   ·rw [ai e3] at h
    simp only [bw,bk] at h
    exact ⟨TL h.2.1,h.2.2⟩
   ·rw [ah e3] at h
    cases h
theorem W7 (t:T):wT t=t.name.size+t.kids.length+wL t.kids:=by cases t; rw [wT]; rfl
theorem U3 (t:T):okV t↔(t.kind=1->0<=t.n/\t.n<=25)/\nl t.kids:=by cases t; rw [okV]; rfl
theorem UY (t:T):okK t↔t.kind≠0/\Ci t.kids:=by cases t; rw [okK]; rfl
theorem TZ (t:T):okO t↔(((t.kind=1 ∨ t.kind=2)/\t.name=emptyB/\t.kids=[]) ∨ (t.kind=3/\t.n=0))/\BN t.kids:=by cases t; rw [okO]; rfl
theorem UV:∀ {ts:List T},(∀ t∈ts,okO t)->BN ts
 | [],_=>by simp [BN]
 | t::ts,h=>by rw [BN]; exact ⟨h t (aT ..),UV fun u hu=>h u (aS _ hu)⟩
theorem NZ {y:T} (h:dS y=true) (hk:y.kids=[]):okV y/\okK y/\okO y/\wT y<=6:=by
 have h1:=HV h
 have h2:=Ie h
 have h3:=Cf h
 refine ⟨(U3 y).2 ⟨h1.1,by rw [hk]; simp [nl]⟩,(UY y).2 ⟨h1.2,by rw [hk]; simp [Ci]⟩,(TZ y).2 ⟨h2,by rw [hk]; simp [BN]⟩,?_⟩
 rw [W7,hk]
 simp only [bQ,wL]
 omega
theorem Ig:∀ (ts:List T) (b:Nat),(∀ t∈ts,wT t<=b)->wL ts<=ts.length * b
 | [],b,_=>by simp [wL]
 | t::ts,b,h=>by
  rw [wL,bu,lu]
  have h1:=h t (aT ..)
  have h2:=Ig ts b fun u hu=>h u (aS _ hu)
  omega
theorem T3 {x:T} (ho:dS x=true) (hk:∀ y∈x.kids,dS y=true/\y.kids=[]):okV x/\okK x/\okO x/\wT x<=34:=by
 have h1:=HV ho
 have h2:=Ie ho
 have h3:=Cf ho
 have hl:=fun y hy=>NZ (hk y hy).1 (hk y hy).2
 refine ⟨(U3 x).2 ⟨h1.1,NO fun y hy=>(hl y hy).1⟩,(UY x).2 ⟨h1.2,Ub fun y hy=>(hl y hy).2.1⟩,(TZ x).2 ⟨h2,UV fun y hy=>(hl y hy).2.2.1⟩,?_⟩
 have h4:=Ig x.kids 6 fun y hy=>(hl y hy).2.2.2
 have h5:x.kids.length * 6<=4 * 6:=jr 6 h3.2
 rw [W7]
 omega
theorem Fct.ok {x:T} (h:Fct x):okV x/\okK x/\okO x/\wT x<=34:=T3 h.2.1 fun y hy=>⟨(h.2.2 y hy).1,(h.2.2 y hy).2.1⟩
theorem Gl.ok {x:T} (h:Gl x):okV x/\okK x/\okO x/\wT x<=34:=T3 h.2.1 h.2.2
theorem StF.ok {st:ao} (h:StF st):z2 st/\stW st:=⟨⟨h.1,fun t ht=>(NZ (h.2 t ht).1 (h.2 t ht).2.1).2.1⟩,fun t ht=>by have:=(NZ (h.2 t ht).1 (h.2 t ht).2.1).2.2.2; omega⟩
theorem Pz:StF st0:=⟨by simp [st0],fun t ht=>by simp [st0] at ht⟩
theorem Kw {y:T} (h:dS y=true) (hk:y.kind=1):0<=y.n/\y.n<=25:=(HV h).1 hk
theorem Dg:∀ (ts us:List T) (st:ao),st.length=26->(∀ y∈ts,dS y=true/\y.kids=[])->ts.length=us.length->
  (di ts us st).2.length=26/\(∀ x,some x∈(di ts us st).2->some x∈st ∨ x∈us)/\(∀ n,bnd st n->bnd (di ts us st).2 n)/\((di ts us st).1=true->∀ y∈ts,y.kind=1->bnd (di ts us st).2 y.n)
 | [],us,st,hst,_,_=>by
  rw [di]
  exact ⟨hst,fun x hx=>.inl hx,fun n h=>h,fun _ y hy=>by cases hy⟩
 | _::_,[],st,_,_,hl=>by simp at hl
 | t::ts,u::us,st,hst,hk,hl=>by
  obtain ⟨ho,hks⟩:=hk t (aT ..)
  have hk':=fun y hy=>hk y (aS _ hy)
  have hl':ts.length=us.length:=by simpa using hl
  rw [di]
  have key:(bm t u st).2.length=26/\(∀ x,some x∈(bm t u st).2->some x∈st ∨ x=u)/\(∀ n,bnd st n->bnd (bm t u st).2 n)/\((bm t u st).1=true->t.kind=1->bnd (bm t u st).2 t.n):=by
   obtain ⟨k,n,s,ks⟩:=t
   rw [bm]
   by_cases hk1:k=1
   ·have hr:=Kw ho hk1
    simp only [T.n] at hr
    rw [ai hk1]
    split
    ·rename_i t0 h0
     refine ⟨hst,fun x hx=>.inl hx,fun n h=>h,fun _ _=>⟨t0,?_⟩⟩
     exact h0
    ·refine ⟨by rw [oc]; exact hst,fun x hx=>?_,fun m ⟨t1,h1⟩=>?_,fun _ _=>⟨u,?_⟩⟩
     ·rcases xi hx with hx|hx
      ·exact .inl hx
      ·simp only [bg] at hx
       exact .inr hx
     ·by_cases e:n.toNat=m.toNat
      ·refine ⟨u,?_⟩
       rw [<- e,F3 (by omega)]
      ·refine ⟨t1,?_⟩
       rw [vR e]
       exact h1
     ·show (st.set n.toNat (some u))[n.toNat]?=_
      rw [F3 (by omega)]
   ·rw [ah hk1]
    split
    ·simp only [T.kids] at hks
     subst hks
     rw [di]
     exact ⟨hst,fun x hx=>.inl hx,fun n h=>h,fun _ h=>absurd h hk1⟩
    ·exact ⟨hst,fun x hx=>.inl hx,fun n h=>h,fun _ h=>absurd h hk1⟩
  obtain ⟨k1,k2,k3,k4⟩:=key
  split
  ·rename_i hm
   obtain ⟨i1,i2,i3,i4⟩:=Dg ts us (bm t u st).2 k1 hk' hl'
   refine ⟨i1,fun x hx=>?_,fun n h=>i3 n (k3 n h),fun h y hy hy1=>?_⟩
   ·rcases i2 x hx with hx|hx
    ·rcases k2 x hx with hx|rfl
     ·exact .inl hx
     ·exact .inr (aT ..)
    ·exact .inr (aS _ hx)
   ·rcases bG.1 hy with rfl|hy
    ·exact i3 _ (k4 hm hy1)
    ·exact i4 h y hy hy1
  ·refine ⟨k1,fun x hx=>?_,k3,fun h=>by cases h⟩
   rcases k2 x hx with hx|rfl
   ·exact .inl hx
   ·exact .inr (aT ..)
theorem iS {g f:T} {st:ao} (hg:Gl g) (hf:Fct f) (hst:StF st):StF (bm g f st).2/\(∀ n,bnd st n->bnd (bm g f st).2 n)/\((bm g f st).1=true->∀ y∈g.kids,y.kind=1->bnd (bm g f st).2 y.n):=by
 obtain ⟨k,n,s,ks⟩:=g
 have hk3:k=3:=hg.1
 rw [bm,ah (by omega)]
 split
 ·rename_i hd
  have hl:ks.length=f.kids.length:=by
   rw [jM] at hd
   simp only [bw,bk] at hd
   exact hd.2.2.2
  obtain ⟨i1,i2,i3,i4⟩:=Dg ks f.kids st hst.1 hg.2.2 hl
  refine ⟨⟨i1,fun t ht=>?_⟩,i3,i4⟩
  rcases i2 t ht with h|h
  ·exact hst.2 t h
  ·exact hf.2.2 t h
 ·exact ⟨hst,fun n h=>h,fun h=>by cases h⟩
theorem HE {h:T} {st:ao} (hh:Gl h) (hst:StF st) (hb:∀ y∈h.kids,y.kind=1->bnd st y.n):Fct (r5 h st):=by
 refine ⟨hh.1,?_,fun y hy=>?_⟩
 ·have h1:=hh.2.1
  unfold dS at h1 ⊢
  have e3:(r5 h st).kind=3:=hh.1
  rw [ah (by have:=hh.1; omega),ah (by have:=hh.1; omega),ai hh.1] at h1
  rw [ah (by omega),ah (by omega),ai e3]
  simp only [bw,bk] at h1 ⊢
  refine ⟨rfl,h1.2.1,?_⟩
  show (h.kids.map (jF st)).length<=4
  rw [jH]
  exact h1.2.2
 ·have hy:y∈h.kids.map (jF st):=hy
  obtain ⟨x,hx,rfl⟩:=eF.1 hy
  rw [jF]
  split
  ·rename_i hk
   obtain ⟨t,ht⟩:=hb x hx hk
   have e:vj st x.n=t:=by rw [vj,ht]
   rw [e]
   exact hst.2 t (b0 ht)
  ·rename_i hk
   exact ⟨(hh.2.2 x hx).1,(hh.2.2 x hx).2,hk⟩
def lM (hd:T) (facts:List T):List T->List T->ao->List T
 | [],out,st=>if 60<out.length then out else fg out (r5 hd st)
 | g::gs,out,st=>if 60<out.length then out else facts.foldl (fun out f=>if (bm g f st).1=true then lM hd facts gs out (bm g f st).2 else out) out
def eh (hd:T) (facts:List T):List T->ao->List T
 | [],st=>[r5 hd st]
 | g::gs,st=>facts.flatMap fun f=>if (bm g f st).1=true then eh hd facts gs (bm g f st).2 else []
def jN (out:List T) (t:T):List T:=if 60<out.length then out else fg out t
theorem B6:∀ (l:List T) (out:List T),60<out.length->l.foldl jN out=out
 | [],out,_=>rfl
 | t::l,out,h=>by
  rw [nD,jN,ai h]
  exact B6 l out h
theorem AP (hd:T) (facts:List T):∀ (gs out:List T) (st:ao),lM hd facts gs out st=(eh hd facts gs st).foldl jN out
 | [],out,st=>by rw [lM,eh]; rfl
 | g::gs,out,st=>by
  rw [lM,eh]
  split
  ·rename_i h
   exact (B6 _ _ h).symm
  ·rename_i h
   clear h
   have:∀ (fs out:List T),fs.foldl (fun out f=>if (bm g f st).1=true then lM hd facts gs out (bm g f st).2 else out) out =
     (fs.flatMap fun f=>if (bm g f st).1=true then eh hd facts gs (bm g f st).2 else []).foldl jN out:=by
    intro fs
    induction fs with
    | nil=>intro out; rfl
    | cons f fs ih=>
     intro out
     rw [nD,rF,TY,ih]
     congr 1
     split
     ·exact AP hd facts gs out _
     ·rfl
   exact this facts out
def kB (hd:T) (gs:List T) (st:ao):Prop:=∀ y∈hd.kids,y.kind=1->bnd st y.n ∨ ∃ g∈gs,∃ z∈g.kids,z.kind=1/\z.n=y.n
theorem jb {hd g f:T} {gs:List T} {st:ao} (h:kB hd (g::gs) st) (hg:Gl g) (hf:Fct f) (hst:StF st) (hm:(bm g f st).1=true):kB hd gs (bm g f st).2:=by
 obtain ⟨_,h2,h3⟩:=iS hg hf hst
 intro y hy hk
 rcases h y hy hk with hb|⟨x,hx,z,hz,hz1,hzn⟩
 ·exact .inl (h2 _ hb)
 ·rcases bG.1 hx with rfl|hx
  ·left
   rw [<- hzn]
   exact h3 hm z hz hz1
  ·exact .inr ⟨x,hx,z,hz,hz1,hzn⟩
theorem FZ {hd:T} {facts:List T} (hh:Gl hd) (hfs:∀ f∈facts,Fct f):∀ (gs:List T) (st:ao),(∀ g∈gs,Gl g)->StF st->kB hd gs st->∀ x∈eh hd facts gs st,Fct x
 | [],st,_,hst,hc,x,hx=>by
  rw [eh,bL] at hx
  subst hx
  refine HE hh hst fun y hy hk=>?_
  rcases hc y hy hk with h|⟨g,hg,_⟩
  ·exact h
  ·cases hg
 | g::gs,st,hgs,hst,hc,x,hx=>by
  rw [eh,oT] at hx
  obtain ⟨f,hf,hx⟩:=hx
  split at hx
  ·rename_i hm
   have hg:=hgs g (aT ..)
   exact FZ hh hfs gs _ (fun g' h'=>hgs g' (aS _ h')) (iS hg (hfs f hf) hst).1 (jb hc hg (hfs f hf) hst hm) x hx
  ·cases hx
theorem Qr (out:List T) (t:T):out.length<=(jN out t).length/\(jN out t).length<=max out.length 61:=by
 unfold jN
 split
 ·omega
 ·have:=Hh out t
  omega
theorem tD:∀ (l out:List T),out.length<=(l.foldl jN out).length/\(l.foldl jN out).length<=max out.length 61
 | [],out=>by simp only [Uc]; omega
 | t::l,out=>by
  rw [nD]
  have h1:=Qr out t
  have h2:=tD l (jN out t)
  omega
theorem Oy {out:List T} {t y:T} (h:y∈jN out t):y∈out ∨ y=t:=by
 unfold jN at h
 split at h
 ·exact .inl h
 ·exact tV h
theorem yO:∀ (l out:List T) (y:T),y∈l.foldl jN out->y∈out ∨ y∈l
 | [],out,y,h=>.inl h
 | t::l,out,y,h=>by
  rw [nD] at h
  rcases yO l _ y h with h|h
  ·rcases Oy h with h|rfl
   ·exact .inl h
   ·exact .inr (aT ..)
  ·exact .inr (aS _ h)
theorem A0:∀ (l out:List T) (y:T),y∈out->y∈l.foldl jN out
 | [],out,y,h=>h
 | t::l,out,y,h=>by
  rw [nD]
  refine A0 l _ y ?_
  unfold jN
  split
  ·exact h
  ·exact (Qu out t).2 y h
theorem P7:∀ (l out:List T) (y:T),y∈l->60<(l.foldl jN out).length ∨ y∈l.foldl jN out
 | t::l,out,y,h=>by
  rw [nD]
  rcases bG.1 h with rfl|h
  ·by_cases hc:60<out.length
   ·left
    have h1:=Qr out y
    have h2:=tD l (jN out y)
    omega
   ·right
    refine A0 l _ _ ?_
    rw [jN,ah hc]
    exact (Qu out y).1
  ·exact P7 l _ y h
theorem En:∀ (l out:List T),Sorted out->(∀ x∈out,okO x)->(∀ x∈l,okO x)->Sorted (l.foldl jN out)
 | [],out,h,_,_=>h
 | t::l,out,h,ho,hl=>by
  rw [nD]
  have ht:=hl t (aT ..)
  refine En l _ ?_ (fun x hx=>?_) fun x hx=>hl x (aS _ hx)
  ·unfold jN
   split
   ·exact h
   ·exact uz h ho ht
  ·rcases Oy hx with hx|rfl
   ·exact ho x hx
   ·exact ht
theorem PH (l:List T) (t:T):VV l t=true↔t∈l:=by
 rw [VV,Gq]
 constructor
 ·rintro ⟨x,hx,he⟩
  rw [jJ] at he
  subst he
  exact hx
 ·intro h
  exact ⟨t,h,(jJ _ _).2 rfl⟩
end
section
open Go Go.RowKit
def eK (p:List C) (facts:List T):List T:=p.flatMap fun c=>eh c.head facts c.body st0
def iu (p:List C) (facts:List T):List T:=(eK p facts).foldl fg facts
def eU (p:List C) (facts:List T):List T:=(eK p facts).foldl jN facts
theorem tK:∀ (l out:List T),out.length<=(l.foldl fg out).length/\(l.foldl fg out).length<=out.length+l.length
 | [],out=>⟨aR _,aR _⟩
 | t::l,out=>by
  rw [nD,bu]
  have h1:=Hh out t
  have h2:=tK l (fg out t)
  omega
theorem Ob:∀ (l out:List T) (y:T),y∈l.foldl fg out->y∈out ∨ y∈l
 | [],out,y,h=>.inl h
 | t::l,out,y,h=>by
  rw [nD] at h
  rcases Ob l _ y h with h|h
  ·rcases tV h with h|rfl
   ·exact .inl h
   ·exact .inr (aT ..)
  ·exact .inr (aS _ h)
theorem Eb:∀ (l out:List T),Sorted out->(∀ x∈out,okO x)->(∀ x∈l,okO x)->Sorted (l.foldl fg out)
 | [],out,h,_,_=>h
 | t::l,out,h,ho,hl=>by
  rw [nD]
  have ht:=hl t (aT ..)
  refine Eb l _ (uz h ho ht) (fun x hx=>?_) fun x hx=>hl x (aS _ hx)
  rcases tV hx with hx|rfl
  ·exact ho x hx
  ·exact ht
theorem UA:∀ (l out:List T),(60<(l.foldl fg out).length/\60<(l.foldl jN out).length) ∨ ((l.foldl fg out).length<=60/\l.foldl jN out=l.foldl fg out)
 | [],out=>by
  simp only [Uc]
  by_cases h:60<out.length
  ·exact .inl ⟨h,h⟩
  ·exact .inr ⟨by omega,trivial⟩
 | t::l,out=>by
  by_cases h:60<out.length
  ·left
   have h1:=tK (t::l) out
   rw [B6 _ _ h]
   omega
  ·rw [nD,nD,jN,ah h]
   exact UA l (fg out t)
theorem Km {hd:T} {facts:List T}:∀ (gs:List T) (st:ao),(eh hd facts gs st).length<=facts.length ^ gs.length
 | [],st=>by rw [eh]; simp
 | g::gs,st=>by
  rw [eh,bu,Nat.pow_succ]
  have:∀ fs:List T,(fs.flatMap fun f=>if (bm g f st).1=true then eh hd facts gs (bm g f st).2 else []).length<=facts.length ^ gs.length * fs.length:=by
   intro fs
   induction fs with
   | nil=>simp
   | cons f fs ih=>
    rw [rF,bx,bu,Nat.mul_succ]
    have:(if (bm g f st).1=true then eh hd facts gs (bm g f st).2 else []).length<=facts.length ^ gs.length:=by
     split
     ·exact Km gs _
     ·simp
    omega
  exact this facts
structure Fs (f:List T):Prop where
 sorted:Sorted f
 fct:∀ x∈f,Fct x
theorem Fs.nil:Fs []:=⟨trivial,by simp⟩
theorem Fs.okO {f:List T} (h:Fs f):∀ x∈f,okO x:=fun x hx=>(h.fct x hx).ok.2.2.1
structure Pf (p:List C):Prop where
 len:p.length<=20
 parts:∀ c∈p,Gl c.head/\(∀ g∈c.body,Gl g)/\kB c.head c.body st0
 three:∀ c∈p,c.body.length<=3
theorem Lj {p:List C} {f:List T} (hp:Pf p) (hf:Fs f):∀ x∈eK p f,Fct x:=by
 intro x hx
 rw [eK,oT] at hx
 obtain ⟨c,hc,hx⟩:=hx
 obtain ⟨h1,h2,h3⟩:=hp.parts c hc
 exact FZ h1 hf.fct c.body st0 h2 Pz h3 x hx
theorem QZ {c:C} {f:List T} (h3:c.body.length<=3) (hf:f.length<=60):(eh c.head f c.body st0).length<=216000:=by
 refine gB (Km _ _) ?_
 have h1:f.length ^ c.body.length<=60 ^ c.body.length:=Nat.pow_le_pow_left hf _
 have h2:60 ^ c.body.length<=60 ^ 3:=MM (by decide) h3
 exact gB h1 (gB h2 (by decide))
theorem V8 {p:List C} {f:List T} (hp:Pf p) (hf:Fs f):Fs (iu p f):=by
 have h1:=Lj hp hf
 refine ⟨Eb _ _ hf.sorted hf.okO fun x hx=>(h1 x hx).ok.2.2.1,fun x hx=>?_⟩
 rcases Ob _ _ _ hx with hx|hx
 ·exact hf.fct x hx
 ·exact h1 x hx
theorem Co {p:List C} {f:List T} (hp:Pf p) (hf:Fs f):Fs (eU p f):=by
 have h1:=Lj hp hf
 refine ⟨En _ _ hf.sorted hf.okO fun x hx=>(h1 x hx).ok.2.2.1,fun x hx=>?_⟩
 rcases yO _ _ _ hx with hx|hx
 ·exact hf.fct x hx
 ·exact h1 x hx
theorem xu (p:List C) (f:List T) (h:f.length<=61):f.length<=(eU p f).length/\(eU p f).length<=61:=by
 have:=tD (eK p f) f
 rw [eU]
 omega
def stI (p:List C):Nat->List T->Nat->Option (List T × Nat)
 | 0,f,n=>some (f,n)
 | k+1,f,n=>if 60<(iu p f).length then none else if (iu p f).length=f.length then some (f,n) else stI p k (iu p f) (n+1)
def stS (p:List C):Nat->List T->Nat->List T × Nat
 | 0,f,n=>(f,n)
 | k+1,f,n=>if (eU p f).length=f.length ∨ 60<f.length then (f,n) else stS p k (eU p f) (n+1)
theorem TT (p:List C):∀ (k:Nat) (f:List T) (n:Nat),f.length<=60->(stI p k f n=none/\60<(stS p k f n).1.length) ∨ (stI p k f n=some (stS p k f n)/\(stS p k f n).1.length<=60)
 | 0,f,n,hf=>.inr ⟨rfl,hf⟩
 | k+1,f,n,hf=>by
  rw [stI,stS]
  rcases UA (eK p f) f with ⟨h1,h2⟩|⟨h1,h2⟩
  ·left
   have h1:60<(iu p f).length:=h1
   have h2:60<(eU p f).length:=h2
   rw [ai h1,ah (by omega)]
   refine ⟨rfl,?_⟩
   cases k with
   | zero=>exact h2
   | succ k=>
    rw [stS,ai (.inr h2)]
    exact h2
  ·have h1:(iu p f).length<=60:=h1
   have h2:eU p f=iu p f:=h2
   rw [ah (by omega),h2]
   by_cases he:(iu p f).length=f.length
   ·rw [ai he,ai (.inl he)]
    exact .inr ⟨rfl,hf⟩
   ·rw [ah he,ah (by omega)]
    exact TT p k _ _ h1
theorem Og (p:List C):∀ (j k:Nat) (f:List T) (n:Nat),j<=k->61<=j+f.length->f.length<=60->stI p k f n=stI p j f n
 | 0,k,f,n,_,h1,h2=>by omega
 | j+1,0,f,n,h,_,_=>by omega
 | j+1,k+1,f,n,h,h1,h2=>by
  rw [stI,stI]
  split
  ·rfl
  ·split
   ·rfl
   ·rename_i h3 h4
    have:=tK (eK p f) f
    have h5:f.length<=(iu p f).length:=this.1
    exact Og p j k _ _ (by omega) (by omega) (by omega)
theorem Hq {p:List C} (hp:Pf p):∀ (k:Nat) (f:List T) (n:Nat),Fs f->f.length<=61->Fs (stS p k f n).1/\(stS p k f n).1.length<=61
 | 0,f,n,hf,hl=>⟨hf,hl⟩
 | k+1,f,n,hf,hl=>by
  rw [stS]
  split
  ·exact ⟨hf,hl⟩
  ·exact Hq hp k _ _ (Co hp hf) (xu p f hl).2
def gT (r:Int):Nat:=if 60<r then 61 else r.toNat
def bU (p:List C) (r:Int):List T × Bool:=
 if (fi p && !decide (r<0))=true then
  (if (stS p (gT r) [] 0).1.length<=60 then ((stS p (gT r) [] 0).1,true) else ([],false))
 else ([],false)
def n3 (p:List C):Int:=if fi p=true then (if (stS p 61 [] 0).1.length<=60 then ((stS p 61 [] 0).2:Int) else -1) else -1
theorem Pf.take {p:List C} (h:Pf p) (j:Nat):Pf (p.take j):=⟨by have:=h.len; rw [dK]; omega,fun c hc=>h.parts c (xU hc),fun c hc=>h.three c (xU hc)⟩
theorem xl (p:List C) (f:List T) (j:Nat) (hj:j<p.length):eK (p.take (j+1)) f=eK (p.take j) f++eh p[j].head f p[j].body st0:=by
 rw [eK,fj hj,List.flatMap_append,rF,List.flatMap_nil,dB]
 rfl
theorem KP {p:List C} {f:List T} (hp:Pf p) (hf:f.length<=60):∀ j,j<=p.length->(eK (p.take j) f).length<=j * 216000
 | 0,_=>by simp [eK]
 | j+1,h=>by
  have hj:j<p.length:=by omega
  rw [xl p f j hj,bx]
  have h1:=KP hp hf j (by omega)
  have h2:=QZ (hp.three _ (bA hj)) hf
  omega
theorem PT (p:List C) (r:Int):(stI p r.toNat [] 0=none/\60<(stS p (gT r) [] 0).1.length) ∨ (stI p r.toNat [] 0=some (stS p (gT r) [] 0)/\(stS p (gT r) [] 0).1.length<=60):=by
 have e:stI p r.toNat [] 0=stI p (gT r) [] 0:=by
  unfold gT
  split
  ·exact Og p 61 _ [] 0 (by omega) (by simp) (by simp)
  ·rfl
 rw [e]
 exact TT p _ [] 0 (by simp)
theorem Fs.w {f:List T} (h:Fs f):wL f<=f.length * 34:=Ig f 34 fun t ht=>(h.fct t ht).ok.2.2.2
theorem GM {p:List C} (hp:fi p=true->Pf p) (r:Int):(bU p r).1.length<=60/\wL (bU p r).1<=2040:=by
 unfold bU
 split
 ·rename_i h
  rw [bw] at h
  have h1:=(Hq (hp h.1) (gT r) [] 0 Fs.nil (by simp)).1
  split
  ·rename_i h2
   have:=h1.w
   refine ⟨h2,?_⟩
   show wL (stS p (gT r) [] 0).1<=2040
   omega
  ·simp [wL]
 ·simp [wL]
end
end Go.Proofs.YtgllldjiaglkcaaGreatDoor
