/- the search of the spec in plain Lean: a step that takes a clause (l6Try). -/
import Derived.Test.YtfcbhfjomgopbaaGreatZFf10
import Derived.Test.YtfcbhfjomgopbaaGreatZFf7
import Derived.Test.YtfcbhfjomgopbaaGreatZFf8
import Derived.Test.YtfcbhfjomgopbaaGreatZFf1
namespace Go.Proofs.YtfcbhfjomgopbaaGreat
section
open Go Go.RowKit
theorem Good.grow {N:Nat} {st:aC} (h:Good N st) (k:Nat):Good (N+k) (st++List.replicate k none):=by
 have hm:∀ t,some t∈st++List.replicate k none->some t∈st:=fun t ht=>by
  rcases List.mem_append.1 ht with ht|ht
  ·exact ht
  ·have:=List.eq_of_mem_replicate ht
   cases this
 obtain ⟨r,hr⟩:=h.rk
 refine ⟨by simp [h.len],fun t ht=>kG (Nat.le_add_right ..) t (h.ok t (hm t ht)),fun t ht=>h.w t (hm t ht),r,fun n u hu=>?_⟩
 refine hr n u ?_
 rw [List.getElem?_append] at hu
 split at hu
 ·exact hu
 ·have:=List.eq_of_mem_replicate (List.mem_of_getElem? hu)
  cases this
def zO (b:aC) (cl:C):aC:=b++List.replicate (i0 cl).toNat none
def tf (cl:C):Prop:=(okU (i0 cl).toNat cl.head/\wT cl.head<=1048576)/\∀ t∈cl.body,okU (i0 cl).toNat t/\wT t<=1048576
def lV (chs:List Ch) (c:Ch) (cl:C) (l:List Int) (st:aC):St6:=
 ⟨cl.body.map (fun t=>(cH c.binds.length t,(chs.length:Int)))++c.rest,st,chs++(if l=[] then [] else [⟨c.goal,c.rest,l,c.binds⟩])⟩
inductive TryL (p:List C) (chs:List Ch) (c:Ch):List Int->Option St6->Prop
 | nil:TryL p chs c [] none
 | hit {i:Nat} {l:List Int} {cl:C} {st:aC}:p[i]?=some cl->Uni (zO c.binds cl) (.one c.goal (cH c.binds.length cl.head)) true st->TryL p chs c ((i:Int)::l) (some (lV chs c cl l st))
 | miss {i:Nat} {l:List Int} {cl:C} {st:aC} {o:Option St6}:p[i]?=some cl->Uni (zO c.binds cl) (.one c.goal (cH c.binds.length cl.head)) false st->TryL p chs c l o->TryL p chs c ((i:Int)::l) o
theorem TryL.inv {p:List C} {chs:List Ch} {c:Ch} {x:Int} {l:List Int} {o:Option St6} (h:TryL p chs c (x::l) o) :
  ∃ (i:Nat) (cl:C) (r:Bool) (st:aC),x=i/\p[i]?=some cl/\Uni (zO c.binds cl) (.one c.goal (cH c.binds.length cl.head)) r st/\((r=true/\o=some (lV chs c cl l st)) ∨ (r=false/\TryL p chs c l o)):=by
 cases h with
 | hit h1 h2=>exact ⟨_,_,_,_,rfl,h1,h2,.inl ⟨rfl,rfl⟩⟩
 | miss h1 h2 h3=>exact ⟨_,_,_,_,rfl,h1,h2,.inr ⟨rfl,h3⟩⟩
structure km (c:Ch):Prop where
 good:Good c.binds.length c.binds
 goal:okU c.binds.length c.goal/\wT c.goal<=1048576
 rest:∀ g∈c.rest,okU c.binds.length g.1/\wT g.1<=1048576
structure Rb (s:St6):Prop where
 good:Good s.binds.length s.binds
 goals:∀ g∈s.goals,okU s.binds.length g.1/\wT g.1<=1048576
 chs:∀ c∈s.chs,km c
theorem qT {c:Ch} (hc:km c) (cl:C):Good (c.binds.length+(i0 cl).toNat) (zO c.binds cl):=hc.good.grow _
theorem Ar {c:Ch} {cl:C} (hc:km c) (hcl:tf cl):okJ (c.binds.length+(i0 cl).toNat) (.one c.goal (cH c.binds.length cl.head)):=by
 refine ⟨⟨kG (Nat.le_add_right ..) _ hc.goal.1,hc.goal.2⟩,?_,?_⟩
 ·have:=nK c.binds.length cl.head hcl.1.1
  rw [Nat.add_comm] at this
  exact this
 ·rw [pY]; exact hcl.1.2
theorem TryL.ex {p:List C} (hp:∀ cl∈p,tf cl) (chs:List Ch) {c:Ch} (hc:km c):∀ l:List Int,(∀ i∈l,0<=i/\i<p.length)->∃ o,TryL p chs c l o
 | [],_=>⟨none,.nil⟩
 | i::l,hl=>by
  obtain ⟨h0,h1⟩:=hl i (List.mem_cons_self ..)
  obtain ⟨n,rfl⟩:∃ n:Nat,i=n:=⟨i.toNat,by omega⟩
  have hn:n<p.length:=by omega
  have hg:p[n]?=some p[n]:=List.getElem?_eq_getElem hn
  have hcl:=hp _ (List.getElem_mem hn)
  obtain ⟨r,st,hu⟩:=GS _ _ (qT hc p[n]) (Nat.le_refl _) _ (Ar hc hcl)
  cases r with
  | true=>exact ⟨_,.hit hg hu⟩
  | false=>
   obtain ⟨o,ho⟩:=TryL.ex hp chs hc l fun i hi=>hl i (List.mem_cons_of_mem _ hi)
   exact ⟨o,.miss hg hu ho⟩
theorem TryL.ok {p:List C} (hp:∀ cl∈p,tf cl) {chs:List Ch} (hh:∀ c∈chs,km c) {c:Ch} (hc:km c) {l:List Int} {o:Option St6} (h:TryL p chs c l o):∀ s,o=some s->Rb s:=by
 induction h with
 | nil=>intro s h; cases h
 | miss _ _ _ ih=>exact ih
 | @hit i l cl st hi hu=>
  intro s hs
  simp only [Option.some.injEq] at hs
  subst hs
  have hcl:=hp _ (List.mem_of_getElem? hi)
  obtain ⟨hg,_⟩:=hu.good (qT hc cl) (Ar hc hcl)
  have hlen:=hg.len
  refine ⟨by rw [lV,hlen]; exact hg,fun g hm=>?_,fun d hd=>?_⟩
  ·rw [lV] at hm ⊢
   simp only at hm ⊢
   rw [hlen]
   rcases List.mem_append.1 hm with hm|hm
   ·obtain ⟨t,ht,rfl⟩:=List.mem_map.1 hm
    obtain ⟨q1,q2⟩:=hcl.2 t ht
    have:=nK c.binds.length t q1
    rw [Nat.add_comm] at this
    exact ⟨this,by rw [pY]; exact q2⟩
   ·exact ⟨kG (Nat.le_add_right ..) _ (hc.rest g hm).1,(hc.rest g hm).2⟩
  ·rw [lV] at hd
   rcases List.mem_append.1 hd with hd|hd
   ·exact hh d hd
   ·split at hd
    ·cases hd
    ·rw [List.mem_singleton] at hd
     subst hd
     exact ⟨hc.good,hc.goal,hc.rest⟩
end
section
open Go Go.RowKit
structure Sp where
 goal:T
 clause:Int
 body:Int
structure Se where
 st:St6
 steps:List Sp
 saved:List (List Sp)
inductive FirstL (p:List C) (chs:List Ch) (c:Ch):List Int->Option (St6 × Int × List Int)->Prop
 | nil:FirstL p chs c [] none
 | hit {i:Int} {l:List Int} {s:St6}:TryL p chs c [i] (some s)->FirstL p chs c (i::l) (some (s,i,l))
 | miss {i:Int} {l:List Int} {o:Option (St6 × Int × List Int)}:TryL p chs c [i] none->FirstL p chs c l o->FirstL p chs c (i::l) o
theorem FirstL.ex {p:List C} (hp:∀ cl∈p,tf cl) (chs:List Ch) {c:Ch} (hc:km c):∀ l:List Int,(∀ i∈l,0<=i/\i<p.length)->∃ o,FirstL p chs c l o
 | [],_=>⟨none,.nil⟩
 | i::l,hl=>by
  obtain ⟨o,ho⟩:=TryL.ex hp chs hc [i] fun j hj=>by
   rw [List.mem_singleton] at hj
   subst hj
   exact hl j (List.mem_cons_self ..)
  cases o with
  | some s=>exact ⟨_,.hit ho⟩
  | none=>
   obtain ⟨o,h2⟩:=FirstL.ex hp chs hc l fun j hj=>hl j (List.mem_cons_of_mem _ hj)
   exact ⟨o,.miss ho h2⟩
theorem FirstL.ok {p:List C} (hp:∀ cl∈p,tf cl) {chs:List Ch} (hh:∀ c∈chs,km c) {c:Ch} (hc:km c) {l:List Int} {o:Option (St6 × Int × List Int)} (h:FirstL p chs c l o) :
  ∀ s i r,o=some (s,i,r)->Rb s/\i∈l/\(∀ j∈r,j∈l):=by
 induction h with
 | nil=>intro s i r h; cases h
 | miss _ _ ih=>
  intro s i r h
  obtain ⟨h1,h2,h3⟩:=ih s i r h
  exact ⟨h1,List.mem_cons_of_mem _ h2,fun j hj=>List.mem_cons_of_mem _ (h3 j hj)⟩
 | hit ht=>
  intro s i r h
  simp only [Option.some.injEq,Prod.mk.injEq] at h
  obtain ⟨rfl,rfl,rfl⟩:=h
  exact ⟨ht.ok hp hh hc _ rfl,List.mem_cons_self ..,fun j hj=>List.mem_cons_of_mem _ hj⟩
def iH (p:List C) (s:Se) (c:Ch) (u:St6) (i:Int) (l:List Int):Se:=
 ⟨⟨u.goals,u.binds,s.st.chs++(if l=[] then [] else [⟨c.goal,c.rest,l,c.binds⟩])⟩,s.steps++[⟨c.goal,i,((p[i.toNat]?).elim 0 fun cl=>(cl.body.length:Int))⟩],s.saved++(if l=[] then [] else [s.steps])⟩
inductive TakeR (p:List C) (s:Se) (c:Ch):Option Se->Prop
 | no:FirstL p s.st.chs c c.left none->TakeR p s c none
 | yes {u:St6} {i:Int} {l:List Int}:FirstL p s.st.chs c c.left (some (u,i,l))->TakeR p s c (some (iH p s c u i l))
structure mp (n:Nat) (s:Se):Prop where
 st:Rb s.st
 left:∀ c∈s.st.chs,∀ i∈c.left,0<=i/\i<n
 len:s.saved.length=s.st.chs.length
theorem TakeR.ex {p:List C} (hp:∀ cl∈p,tf cl) (s:Se) {c:Ch} (hc:km c) (hl:∀ i∈c.left,0<=i/\i<p.length):∃ o,TakeR p s c o:=by
 obtain ⟨o,ho⟩:=FirstL.ex hp s.st.chs hc c.left hl
 cases o with
 | none=>exact ⟨_,.no ho⟩
 | some x=>exact ⟨_,.yes (u:=x.1) (i:=x.2.1) (l:=x.2.2) ho⟩
theorem TakeR.ok {p:List C} (hp:∀ cl∈p,tf cl) {s:Se} (hh:∀ c∈s.st.chs,km c) (hf:∀ c∈s.st.chs,∀ i∈c.left,0<=i/\i<p.length) (hn:s.saved.length=s.st.chs.length) {c:Ch} (hc:km c)
  (hl:∀ i∈c.left,0<=i/\i<p.length) {o:Option Se} (h:TakeR p s c o):∀ s',o=some s'->mp p.length s':=by
 intro s' hs
 cases h with
 | no _=>cases hs
 | @yes u i l hF=>
  simp only [Option.some.injEq] at hs
  subst hs
  obtain ⟨h1,h2,h3⟩:=hF.ok hp hh hc u i l rfl
  refine ⟨⟨h1.good,h1.goals,fun d hd=>?_⟩,fun d hd j hj=>?_,?_⟩
  ·rcases List.mem_append.1 hd with hd|hd
   ·exact hh d hd
   ·split at hd
    ·cases hd
    ·rw [List.mem_singleton] at hd
     subst hd
     exact ⟨hc.good,hc.goal,hc.rest⟩
  ·rcases List.mem_append.1 hd with hd|hd
   ·exact hf d hd j hj
   ·split at hd
    ·cases hd
    ·rw [List.mem_singleton] at hd
     subst hd
     exact hl j (h3 j hj)
  ·simp only [iH,List.length_append]
   split <;> simp [hn]
inductive BackR (p:List C):List Ch->List (List Sp)->Option Se->Prop
 | nil {ss:List (List Sp)}:BackR p [] ss none
 | hit {cs:List Ch} {ss:List (List Sp)} {c:Ch} {t:List Sp} {s:Se}:TakeR p ⟨⟨[],[],cs⟩,t,ss⟩ c (some s)->BackR p (cs++[c]) (ss++[t]) (some s)
 | miss {cs:List Ch} {ss:List (List Sp)} {c:Ch} {t:List Sp} {o:Option Se}:TakeR p ⟨⟨[],[],cs⟩,t,ss⟩ c none->BackR p cs ss o->BackR p (cs++[c]) (ss++[t]) o
theorem BackR.ex {p:List C} (hp:∀ cl∈p,tf cl):∀ (n:Nat) (cs:List Ch) (ss:List (List Sp)),cs.length=n->ss.length=n->(∀ c∈cs,km c)->(∀ c∈cs,∀ i∈c.left,0<=i/\i<p.length)->
  ∃ o,BackR p cs ss o/\∀ s,o=some s->mp p.length s:=by
 intro n
 induction n with
 | zero=>
  intro cs ss h _ _ _
  have:=List.eq_nil_of_length_eq_zero h
  subst this
  exact ⟨none,.nil,fun s h=>by cases h⟩
 | succ n ih=>
  intro cs ss h1 h2 hh hf
  obtain ⟨cs,c,rfl⟩:=List.eq_nil_or_concat cs |>.resolve_left fun e=>by rw [e] at h1; cases h1
  obtain ⟨ss,t,rfl⟩:=List.eq_nil_or_concat ss |>.resolve_left fun e=>by rw [e] at h2; cases h2
  simp only [List.concat_eq_append,List.length_append,List.length_singleton,Nat.add_right_cancel_iff] at h1 h2 hh hf ⊢
  have hc:=hh c (by simp)
  have hl:=hf c (by simp)
  have hh':∀ c∈cs,km c:=fun d hd=>hh d (List.mem_append_left _ hd)
  have hf':∀ c∈cs,∀ i∈c.left,0<=i/\i<p.length:=fun d hd=>hf d (List.mem_append_left _ hd)
  obtain ⟨o,ho⟩:=TakeR.ex hp ⟨⟨[],[],cs⟩,t,ss⟩ hc hl
  cases o with
  | some s=>exact ⟨_,.hit ho,fun s' e=>ho.ok hp hh' hf' (by simp only; omega) hc hl s' e⟩
  | none=>
   obtain ⟨o,h3,h4⟩:=ih cs ss h1 h2 hh' hf'
   exact ⟨o,.miss ho h3,h4⟩
end
section
open Go Go.RowKit
def A2 (p:List C) (g:T):List Int:=lN (fun c=>E8 (iF c.head) (iF g)) p 0
theorem Fw (p:List C) (g:T):∀ i∈A2 p g,0<=i/\i<p.length:=by
 intro i hi
 obtain ⟨j,h0,rfl,hj,_⟩:=IL _ p 0 i hi
 omega
inductive OneR (p:List C) (s:Se):Se->Int->Prop
 | big {g:T × Int} {rest:List (T × Int)} {u:T}:s.st.goals=g::rest->Res s.st.binds (.one g.1 u)->(cA u=false ∨ jR u=true)->OneR p s s 0
 | took {g:T × Int} {rest:List (T × Int)} {u:T} {s':Se}:s.st.goals=g::rest->Res s.st.binds (.one g.1 u)->cA u=true->jR u=false->cM u=false->
   TakeR p s ⟨u,rest,A2 p u,s.st.binds⟩ (some s')->OneR p s s' (-1)
 | stuck {g:T × Int} {rest:List (T × Int)} {u:T}:s.st.goals=g::rest->Res s.st.binds (.one g.1 u)->cA u=true->jR u=false->cM u=false->
   TakeR p s ⟨u,rest,A2 p u,s.st.binds⟩ none->OneR p s s (-2)
 | fail {g:T × Int} {rest:List (T × Int)} {u:T} {st:aC}:s.st.goals=g::rest->Res s.st.binds (.one g.1 u)->cA u=true->jR u=false->cM u=true->
   Blt s.st.binds u 1 st->OneR p s s (-2)
 | err {g:T × Int} {rest:List (T × Int)} {u:T} {st:aC} {c:Int}:s.st.goals=g::rest->Res s.st.binds (.one g.1 u)->cA u=true->jR u=false->cM u=true->
   Blt s.st.binds u c st->c≠0->c≠1->OneR p s s 0
 | solved {g:T × Int} {rest:List (T × Int)} {u:T} {st:aC}:s.st.goals=g::rest->Res s.st.binds (.one g.1 u)->cA u=true->jR u=false->cM u=true->
   Blt s.st.binds u 0 st->OneR p s ⟨⟨rest,st,s.st.chs⟩,s.steps++[⟨u,-1,0⟩],s.saved⟩ (-1)
theorem OneR.ex {p:List C} (hp:∀ cl∈p,tf cl) {s:Se} (hs:mp p.length s) (hg:s.st.goals≠[]):∃ s' k,OneR p s s' k/\mp p.length s':=by
 obtain ⟨g,rest,hgr⟩:∃ g rest,s.st.goals=g::rest:=by
  cases h:s.st.goals with
  | nil=>exact absurd h hg
  | cons g rest=>exact ⟨g,rest,rfl⟩
 have hgo:=hs.st.goals
 rw [hgr] at hgo
 have hg1:=hgo g (List.mem_cons_self ..)
 obtain ⟨us,hus⟩:=Cj hs.st.good [g.1] (by simp only [dC]; exact ⟨hg1.1,trivial⟩)
 obtain ⟨u,hu⟩:∃ u,Res s.st.binds (.one g.1 u):=by
  cases hus with
  | cons h _=>exact ⟨_,h⟩
 have hou:okU s.st.binds.length u:=mj hs.st.good hu hg1.1
 cases hsm:cA u with
 | false=>exact ⟨_,_,.big hgr hu (.inl hsm),hs⟩
 | true=>
  have hw:=lO hsm hou
  cases hc:jR u with
  | true=>exact ⟨_,_,.big hgr hu (.inr hc),hs⟩
  | false=>
   cases hb:cM u with
   | false=>
    have hch:km ⟨u,rest,A2 p u,s.st.binds⟩:=⟨hs.st.good,⟨hou,by simp only; omega⟩,fun x hx=>hgo x (List.mem_cons_of_mem _ hx)⟩
    obtain ⟨o,ho⟩:=TakeR.ex hp s hch (Fw p u)
    cases o with
    | none=>exact ⟨_,_,.stuck hgr hu hsm hc hb ho,hs⟩
    | some s'=>exact ⟨_,_,.took hgr hu hsm hc hb ho,ho.ok hp hs.st.chs hs.left hs.len hch (Fw p u) _ rfl⟩
   | true=>
    obtain ⟨c,st,hB⟩:=Blt.ex hs.st.good hb ⟨hou,by omega⟩
    by_cases h1:c=1
    ·subst h1
     exact ⟨_,_,.fail hgr hu hsm hc hb hB,hs⟩
    by_cases h0:c=0
    ·subst h0
     refine ⟨_,_,.solved hgr hu hsm hc hb hB,?_⟩
     have hgd:=hB.good hs.st.good hb ⟨hou,by omega⟩
     have hl:=hgd.len
     exact ⟨⟨by simp only [hl]; exact hgd,fun x hx=>by simp only [hl]; exact hgo x (List.mem_cons_of_mem _ hx),hs.st.chs⟩,hs.left,hs.len⟩
    ·exact ⟨_,_,.err hgr hu hsm hc hb hB h0 h1,hs⟩
end
section
open Go Go.RowKit
inductive Srch (p:List C):Nat->Se->Option Se->Prop
 | done {n:Nat} {s:Se}:s.st.goals=[]->Srch p n s (some s)
 | out {s:Se}:s.st.goals≠[]->Srch p 0 s none
 | halt {n:Nat} {s s':Se}:s.st.goals≠[]->OneR p s s' 0->Srch p (n+1) s none
 | step {n:Nat} {s s':Se} {o:Option Se}:s.st.goals≠[]->OneR p s s' (-1)->Srch p n s' o->Srch p (n+1) s o
 | stop {n:Nat} {s s':Se}:s.st.goals≠[]->OneR p s s' (-2)->BackR p s'.st.chs s'.saved none->Srch p (n+1) s none
 | back {n:Nat} {s s' t:Se} {o:Option Se}:s.st.goals≠[]->OneR p s s' (-2)->BackR p s'.st.chs s'.saved (some t)->Srch p n t o->Srch p (n+1) s o
theorem OneR.code {p:List C} {s s':Se} {k:Int} (h:OneR p s s' k):k=0 ∨ k=-1 ∨ k=-2:=by
 cases h <;> simp
theorem Srch.ex {p:List C} (hp:∀ cl∈p,tf cl):∀ (n:Nat) (s:Se),mp p.length s->∃ o,Srch p n s o/\∀ t,o=some t->mp p.length t:=by
 intro n
 induction n with
 | zero=>
  intro s hs
  by_cases hg:s.st.goals=[]
  ·exact ⟨_,.done hg,fun t h=>by rw [Option.some.injEq] at h; subst h; exact hs⟩
  ·exact ⟨_,.out hg,fun t h=>by cases h⟩
 | succ n ih=>
  intro s hs
  by_cases hg:s.st.goals=[]
  ·exact ⟨_,.done hg,fun t h=>by rw [Option.some.injEq] at h; subst h; exact hs⟩
  obtain ⟨s',k,h1,h2⟩:=OneR.ex hp hs hg
  rcases h1.code with rfl|rfl|rfl
  ·exact ⟨_,.halt hg h1,fun t h=>by cases h⟩
  ·obtain ⟨o,h3,h4⟩:=ih s' h2
   exact ⟨o,.step hg h1 h3,h4⟩
  ·obtain ⟨o,h3,h4⟩:=BackR.ex hp _ s'.st.chs s'.saved rfl h2.len h2.st.chs h2.left
   cases o with
   | none=>exact ⟨_,.stop hg h1 h3,fun t h=>by cases h⟩
   | some t=>
    obtain ⟨o,h5,h6⟩:=ih t (h4 t rfl)
    exact ⟨o,.back hg h1 h3 h5,h6⟩
def fX (t:T):Se:=⟨⟨[(cH 0 t,0)],List.replicate 26 none,[]⟩,[],[]⟩
theorem Ef {t:T} (ho:okU 26 t) (hw:wT t<=1048576) (n:Nat):mp n (fX t):=by
 refine ⟨⟨?_,fun g hg=>?_,fun c hc=>(by cases hc)⟩,fun c hc=>(by cases hc),rfl⟩
 ·have:=(⟨by simp,fun t ht=>by simp at ht,fun t ht=>by simp at ht,fun n=>n,fun n u hu=>by
   have:=List.mem_of_getElem? hu
   simp at this⟩:Good 26 (List.replicate 26 none))
  simp only [fX,List.length_replicate]
  exact this
 ·simp only [fX,List.mem_singleton] at hg
  subst hg
  simp only [fX,List.length_replicate]
  have:=nK 0 t ho
  exact ⟨this,by rw [pY]; exact hw⟩
end
section
open Go Go.RowKit
def nP:List Sp->Int
 | []=>1
 | x::xs=>x.body - 1+nP xs
theorem y8:∀ (a b:List Sp),nP (a++b)=nP a+nP b - 1
 | [],b=>by rw [List.nil_append,nP]; omega
 | x::a,b=>by rw [List.cons_append,nP,nP,y8 a b]; omega
theorem wV (a:List Sp) (x:Sp):nP (a++[x])=nP a+x.body - 1:=by
 rw [y8]
 simp only [nP]
 omega
def openP (l:List Sp):Prop:=∀ a b,l=a++b->b≠[]->0<nP a
theorem openP.nil:openP []:=by
 intro a b h hb
 have:=congrArg List.length h
 cases b with
 | nil=>exact absurd rfl hb
 | cons y b=>simp at this
theorem openP.snoc {l:List Sp} (h:openP l) (hp:0<nP l) (x:Sp):openP (l++[x]):=by
 intro a b e hb
 obtain ⟨b',y,rfl⟩:=(List.eq_nil_or_concat b).resolve_left hb
 rw [List.concat_eq_append,<- List.append_assoc] at e
 have e2:=List.append_inj_left' e (by simp)
 subst e2
 cases b' with
 | nil=>rw [List.append_nil] at hp; exact hp
 | cons z b'=>exact h a (z::b') rfl (by simp)
structure okP (s:Se):Prop where
 goals:(s.st.goals.length:Int)=nP s.steps
 openP:openP s.steps
 saved:∀ i (h:i<s.st.chs.length) (h':i<s.saved.length),(s.st.chs[i].rest.length:Int)+1=nP s.saved[i]/\Go.Proofs.YtfcbhfjomgopbaaGreat.openP s.saved[i]
theorem s7 (t:T):okP (fX t):=⟨rfl,openP.nil,fun i h=>by simp [fX] at h⟩
def Mm (p:List C) (i:Int):Int:=(p[i.toNat]?).elim 0 fun cl=>(cl.body.length:Int)
theorem TryL.goals {p:List C} {chs:List Ch} {c:Ch} {i:Int} {s:St6} (h:TryL p chs c [i] (some s)):(s.goals.length:Int)=Mm p i+c.rest.length:=by
 cases h with
 | hit hi _=>simp [lV,Mm,hi]
 | miss _ _ h=>cases h
theorem FirstL.goals {p:List C} {chs:List Ch} {c:Ch} {l:List Int} {o:Option (St6 × Int × List Int)} (h:FirstL p chs c l o):∀ s i r,o=some (s,i,r)->(s.goals.length:Int)=Mm p i+c.rest.length:=by
 induction h with
 | nil=>intro s i r h; cases h
 | miss _ _ ih=>exact ih
 | hit ht=>
  intro s i r h
  simp only [Option.some.injEq,Prod.mk.injEq] at h
  obtain ⟨rfl,rfl,rfl⟩:=h
  exact ht.goals
theorem TakeR.okP {p:List C} {s s':Se} {c:Ch} (h:TakeR p s c (some s')) (hn:s.saved.length=s.st.chs.length) (hr:(c.rest.length:Int)+1=nP s.steps) (ho:openP s.steps)
  (hs:∀ i (h:i<s.st.chs.length) (h':i<s.saved.length),(s.st.chs[i].rest.length:Int)+1=nP s.saved[i]/\Go.Proofs.YtfcbhfjomgopbaaGreat.openP s.saved[i]):okP s':=by
 cases h with
 | @yes u i l hF=>
  have hg:=hF.goals u i l rfl
  refine ⟨?_,?_,?_⟩
  ·simp only [iH,wV]
   rw [hg,Mm]
   omega
  ·exact ho.snoc (by omega) _
  ·intro k h1 h2
   simp only [iH] at h1 h2 ⊢
   by_cases hl:l=[]
   ·subst hl
    simp only [if_pos,List.append_nil] at h1 h2 ⊢
    exact hs k h1 h2
   ·simp only [if_neg hl,List.length_append,List.length_singleton] at h1 h2 ⊢
    by_cases hk:k<s.st.chs.length
    ·rw [List.getElem_append_left hk,List.getElem_append_left (by omega)]
     exact hs k hk (by omega)
    ·have hk1:k=s.st.chs.length:=by omega
     subst hk1
     rw [List.getElem_append_right (Nat.le_refl _),List.getElem_append_right (by omega)]
     simp only [hn,Nat.sub_self,List.getElem_cons_zero]
     exact ⟨hr,ho⟩
end
section
open Go Go.RowKit
def okB (cs:List Ch) (ss:List (List Sp)):Prop:=∀ i (h:i<cs.length) (h':i<ss.length),(cs[i].rest.length:Int)+1=nP ss[i]/\openP ss[i]
theorem okB.last {cs:List Ch} {ss:List (List Sp)} {c:Ch} {t:List Sp} (h:okB (cs++[c]) (ss++[t])) (hl:cs.length=ss.length):okB cs ss/\(c.rest.length:Int)+1=nP t/\openP t:=by
 constructor
 ·intro i h1 h2
  have:=h i (by simp; omega) (by simp; omega)
  rw [List.getElem_append_left h1,List.getElem_append_left h2] at this
  exact this
 ·have:=h cs.length (by simp) (by simp [hl])
  rw [List.getElem_append_right (Nat.le_refl _),List.getElem_append_right (by omega)] at this
  simp only [hl,Nat.sub_self,List.getElem_cons_zero] at this
  exact this
theorem BackR.okP {p:List C} {cs:List Ch} {ss:List (List Sp)} {o:Option Se} (h:BackR p cs ss o):cs.length=ss.length->okB cs ss->∀ s,o=some s->okP s:=by
 induction h with
 | nil=>intro _ _ s h; cases h
 | hit ht=>
  intro hl hb s h
  simp only [List.length_append,List.length_singleton,Nat.add_right_cancel_iff] at hl
  obtain ⟨h1,h2,h3⟩:=hb.last hl
  rw [Option.some.injEq] at h
  subst h
  exact ht.okP hl.symm h2 h3 h1
 | miss _ _ ih=>
  intro hl hb
  simp only [List.length_append,List.length_singleton,Nat.add_right_cancel_iff] at hl
  exact ih hl (hb.last hl).1
theorem OneR.okP {p:List C} {s s':Se} {k:Int} (h:OneR p s s' k) (hn:s.saved.length=s.st.chs.length) (ho:okP s):okP s':=by
 have hgl:=ho.goals
 cases h with
 | big=>exact ho
 | stuck=>exact ho
 | fail=>exact ho
 | err=>exact ho
 | took hg _ _ _ _ ht=>
  rw [hg] at hgl
  refine ht.okP hn ?_ ho.openP ho.saved
  simp only [List.length_cons] at hgl ⊢
  omega
 | solved hg _ _ _ _ _=>
  rw [hg] at hgl
  simp only [List.length_cons] at hgl
  refine ⟨?_,ho.openP.snoc (by omega) _,ho.saved⟩
  simp only [wV]
  omega
theorem OneR.ok {p:List C} (hp:∀ cl∈p,tf cl) {s s':Se} {k:Int} (h:OneR p s s' k) (hs:mp p.length s):mp p.length s':=by
 have hgo:=hs.st.goals
 cases h with
 | big=>exact hs
 | stuck=>exact hs
 | fail=>exact hs
 | err=>exact hs
 | took hg hu hsm _ _ ht=>
  rw [hg] at hgo
  have hou:=mj hs.st.good hu (hgo _ (List.mem_cons_self ..)).1
  have hw:=lO hsm hou
  exact ht.ok hp hs.st.chs hs.left hs.len ⟨hs.st.good,⟨hou,by simp only; omega⟩,fun x hx=>hgo x (List.mem_cons_of_mem _ hx)⟩ (Fw p _) _ rfl
 | solved hg hu hsm _ hb hB=>
  rw [hg] at hgo
  have hou:=mj hs.st.good hu (hgo _ (List.mem_cons_self ..)).1
  have hw:=lO hsm hou
  have hgd:=hB.good hs.st.good hb ⟨hou,by omega⟩
  have hl:=hgd.len
  exact ⟨⟨by simp only [hl]; exact hgd,fun x hx=>by simp only [hl]; exact hgo x (List.mem_cons_of_mem _ hx),hs.st.chs⟩,hs.left,hs.len⟩
theorem BackR.ok {p:List C} (hp:∀ cl∈p,tf cl) {cs:List Ch} {ss:List (List Sp)} {o:Option Se} (h:BackR p cs ss o):cs.length=ss.length->(∀ c∈cs,km c)->(∀ c∈cs,∀ i∈c.left,0<=i/\i<p.length)->∀ s,o=some s->mp p.length s:=by
 induction h with
 | nil=>intro _ _ _ s h; cases h
 | hit ht=>
  intro hl hh hf s h
  simp only [List.length_append,List.length_singleton,Nat.add_right_cancel_iff] at hl
  exact ht.ok hp (fun d hd=>hh d (List.mem_append_left _ hd)) (fun d hd=>hf d (List.mem_append_left _ hd)) hl.symm (hh _ (by simp)) (hf _ (by simp)) s h
 | miss _ _ ih=>
  intro hl hh hf
  simp only [List.length_append,List.length_singleton,Nat.add_right_cancel_iff] at hl
  exact ih hl (fun d hd=>hh d (List.mem_append_left _ hd)) (fun d hd=>hf d (List.mem_append_left _ hd))
theorem Srch.ok {p:List C} (hp:∀ cl∈p,tf cl) {n:Nat} {s:Se} {o:Option Se} (h:Srch p n s o):mp p.length s->okP s->∀ t,o=some t->mp p.length t/\okP t/\t.st.goals=[]:=by
 induction h with
 | done hg=>intro h1 h2 t h; rw [Option.some.injEq] at h; subst h; exact ⟨h1,h2,hg⟩
 | out=>intro _ _ t h; cases h
 | halt=>intro _ _ t h; cases h
 | stop=>intro _ _ t h; cases h
 | step hg h1 _ ih=>exact fun hs ho=>ih (h1.ok hp hs) (h1.okP hs.len ho)
 | back hg h1 h2 _ ih=>
  intro hs ho
  have hs':=h1.ok hp hs
  have ho':=h1.okP hs.len ho
  exact ih (h2.ok hp hs'.len.symm hs'.st.chs hs'.left _ rfl) (h2.okP hs'.len.symm ho'.saved _ rfl)
end
section
open Go Go.ChangeShapes Go.WideShapes Go.ChangeAt Go.RowKit

inductive PF where
 | mk (goal:T) (clause:Int) (kids:List PF)
def PF.goal:PF->T
 | .mk g _ _=>g
def PF.clause:PF->Int
 | .mk _ c _=>c
def PF.kids:PF->List PF
 | .mk _ _ ks=>ks
theorem PF.ind {p:PF->Prop} (h:∀ g c ks,(∀ t∈ks,p t)->p (.mk g c ks)) (t:PF):p t:=
 PF.rec (motive_1:=p) (motive_2:=fun l=>∀ t∈l,p t) (fun g c ks ih=>h g c ks ih) (by simp) (fun a l h1 h2 t ht=>by
  rcases List.mem_cons.1 ht with rfl|ht
  ·exact h1
  ·exact h2 t ht) t
inductive RdF (S:ae):List Value->PF->Prop
 | nil {a0 a1 a2 a3:Value} {g:T} {c:Int} {a:Option Addr} {cap:Nat} (hg:RdT S [a0,a1,a2,a3] g) (hn:inI c) (hc:cap<=maxLen) :
   RdF S [a0,a1,a2,a3,.int .i64 c,.slice a 0 cap] (.mk g c [])
 | cons {a0 a1 a2 a3:Value} {g:T} {n:Int} {kids:List PF} {b o cap:Nat} {c:Array Value} {E:TypeId} {fz:Nat × Nat} (hg:RdT S [a0,a1,a2,a3] g) (hn:inI n) (hl:kids.length<=cap) (hc:cap<=maxLen)
   (hS:S b=some (.cells c E fz)) (h:∀ i (h:i<kids.length),RdF S (aH c (o+i * 6) 6) kids[i]) :
   RdF S [a0,a1,a2,a3,.int .i64 n,.slice (some ⟨b,o,none⟩) kids.length cap] (.mk g n kids)
theorem RdF.iff {S:ae} {cs:List Value} {x:PF}:RdF S cs x ↔
  ∃ kv ks,cs=[.int .i64 x.goal.kind,.int .i64 x.goal.n,.string x.goal.name,kv,.int .i64 x.clause,ks]/\RdT S [.int .i64 x.goal.kind,.int .i64 x.goal.n,.string x.goal.name,kv] x.goal/\inI x.clause/\RdSl S 6 (RdF S) ks x.kids:=by
 constructor
 ·intro h
  cases h with
  | nil hg hn hc=>
   obtain ⟨kv,e,_⟩:=RdT.iff.1 hg
   simp only [List.cons.injEq,and_true] at e
   obtain ⟨rfl,rfl,rfl,rfl⟩:=e
   exact ⟨_,_,rfl,hg,hn,_,_,rfl,Nat.zero_le _,hc,.inl rfl⟩
  | cons hg hn hl hc hS h=>
   obtain ⟨kv,e,_⟩:=RdT.iff.1 hg
   simp only [List.cons.injEq,and_true] at e
   obtain ⟨rfl,rfl,rfl,rfl⟩:=e
   exact ⟨_,_,rfl,hg,hn,_,_,rfl,hl,hc,.inr ⟨_,_,_,_,_,rfl,hS,h⟩⟩
 ·obtain ⟨g,n,kids⟩:=x
  rintro ⟨kv,ks,rfl,hg,hn,a,cap,rfl,hl,hc,h⟩
  rcases h with h|⟨b,o,c,E,fz,rfl,hS,h⟩
  ·simp only [PF.kids] at h
   subst h
   exact RdF.nil hg hn hc
  ·exact RdF.cons hg hn hl hc hS h
theorem RdF.length {S:ae} {cs:List Value} {x:PF} (h:RdF S cs x):cs.length=6:=by
 obtain ⟨_,_,rfl,_⟩:=RdF.iff.1 h; rfl
theorem RdF.one {S:ae} {cs:List Value} {x:PF} (h:RdF S cs x):∀ u∈cs,u.oneCell'=true:=by
 obtain ⟨kv,ks,rfl,hg,_,a,cap,rfl,_⟩:=RdF.iff.1 h
 have:=hg.one kv (by simp)
 intro u hu
 simp at hu
 rcases hu with rfl|rfl|rfl|rfl|rfl|rfl <;> first|rfl|exact this
theorem RdF.mono {S S':ae} (hs:Sle S S') {cs:List Value} {x:PF} (h:RdF S cs x):RdF S' cs x:=by
 induction h with
 | nil hg hn hc=>exact RdF.nil (hg.mono hs) hn hc
 | cons hg hn hl hc hS _ ih=>exact RdF.cons (hg.mono hs) hn hl hc (hs _ _ hS) ih
inductive TrF:bg->List Value->PF->Prop
 | nil {L:bg} {a0 a1 a2 a3:Value} {g:T} {n:Int} {a:Option Addr} {cap:Nat} (hg:TrT L [a0,a1,a2,a3] g) (hn:inI n) (hc:cap<=maxLen) :
   TrF L [a0,a1,a2,a3,.int .i64 n,.slice a 0 cap] (.mk g n [])
 | cons {L:bg} {a0 a1 a2 a3:Value} {g:T} {n:Int} {kids:List PF} {b cap:Nat} {c:Array Value} {E:TypeId} {Ls:List bg} (hg:TrT L [a0,a1,a2,a3] g) (hn:inI n) (hl:kids.length<=cap) (hc:cap<=maxLen)
   (hLs:Ls.length=kids.length) (hsz:cap * 6<=c.size) (h:∀ i (h:i<kids.length) (h':i<Ls.length),TrF Ls[i] (aH c (i * 6) 6) kids[i]) :
   TrF (L++(b,.cells c E)::Ls.flatten) [a0,a1,a2,a3,.int .i64 n,.slice (some ⟨b,0,none⟩) kids.length cap] (.mk g n kids)
theorem TrF.iff {L:bg} {cs:List Value} {x:PF}:TrF L cs x ↔
  ∃ L1 L2 kv ks,L=L1++L2/\cs=[.int .i64 x.goal.kind,.int .i64 x.goal.n,.string x.goal.name,kv,.int .i64 x.clause,ks]/\TrT L1 [.int .i64 x.goal.kind,.int .i64 x.goal.n,.string x.goal.name,kv] x.goal/\inI x.clause/\TrSl 6 TrF L2 ks x.kids:=by
 constructor
 ·intro h
  cases h with
  | nil hg hn hc=>
   obtain ⟨kv,e,_⟩:=TrT.iff.1 hg
   simp only [List.cons.injEq,and_true] at e
   obtain ⟨rfl,rfl,rfl,rfl⟩:=e
   exact ⟨_,[],_,_,(List.append_nil _).symm,rfl,hg,hn,_,_,rfl,Nat.zero_le _,hc,.inl ⟨rfl,rfl⟩⟩
  | cons hg hn hl hc hLs hsz h=>
   obtain ⟨kv,e,_⟩:=TrT.iff.1 hg
   simp only [List.cons.injEq,and_true] at e
   obtain ⟨rfl,rfl,rfl,rfl⟩:=e
   exact ⟨_,_,_,_,rfl,rfl,hg,hn,_,_,rfl,hl,hc,.inr ⟨_,_,_,_,rfl,rfl,hLs,hsz,h⟩⟩
 ·obtain ⟨g,n,kids⟩:=x
  rintro ⟨L1,L2,kv,ks,rfl,rfl,hg,hn,a,cap,rfl,hl,hc,h⟩
  rcases h with ⟨h,rfl⟩|⟨b,c,E,Ls,rfl,rfl,hLs,hsz,h⟩
  ·simp only [PF.kids] at h
   subst h
   rw [List.append_nil]
   exact TrF.nil hg hn hc
  ·exact TrF.cons hg hn hl hc hLs hsz h
theorem TrF.length {L:bg} {cs:List Value} {x:PF} (h:TrF L cs x):cs.length=6:=by
 obtain ⟨_,_,_,_,_,rfl,_⟩:=TrF.iff.1 h; rfl
theorem TrF.one {L:bg} {cs:List Value} {x:PF} (h:TrF L cs x):∀ u∈cs,u.oneCell'=true:=by
 obtain ⟨_,_,kv,ks,_,rfl,hg,_,a,cap,rfl,_⟩:=TrF.iff.1 h
 have:=hg.one kv (by simp)
 intro u hu
 simp at hu
 rcases hu with rfl|rfl|rfl|rfl|rfl|rfl <;> first|rfl|exact this
theorem TrF.rd {S:ae} {L:bg} {cs:List Value} {x:PF} (h:TrF L cs x) (hi:Ins S L):RdF S cs x:=by
 induction h with
 | nil hg hn hc=>exact RdF.nil (hg.rd hi) hn hc
 | cons hg hn hl hc hLs hsz h ih=>
  refine RdF.cons (hg.rd hi.left) hn hl hc (hi.right _ (List.mem_cons_self ..)) (o:=0) fun i h1=>?_
  rw [Nat.zero_add]
  exact ih i h1 (by omega) (Af (fun p hp=>hi.right p (List.mem_cons_of_mem _ hp)) (by omega))
mutual
def wF:PF->Nat
 | .mk g _ ks=>wT g+ks.length+wFL ks
def wFL:List PF->Nat
 | []=>0
 | t::ts=>wF t+wFL ts
end
theorem Al:∀ {ts:List PF} {t:PF},t∈ts->wF t<=wFL ts
 | x::xs,t,h=>by
  simp only [wFL]
  rcases List.mem_cons.1 h with rfl|h
  ·omega
  ·have:=Al h; omega
theorem sH {a b c d e f:Value}:∀ (j:Nat) (v:Value),([a,b,c,d]:List Value)[j]?=some v->(#[a,b,c,d,e,f]:Array Value)[0+j]?=some v
 | 0,_,h|1,_,h|2,_,h|3,_,h=>h
 | j+4,_,h=>by simp at h
section
attribute [local irreducible] Run CondV aB aS
end
section
variable {H:Type} {enc:TypeId × Value->H} {W:World} {sp:Nat->Bool} {held:Bool}
end
end
section
open Go Go.RowKit
section
attribute [local irreducible] Run CondV aB aS
theorem tF {σ:Type} {f:FuncId} {fn:Func} {cap:List Value} {S:ae} {It:σ->List Item} {ok:σ->Prop} {step:σ->PF->Bool × σ} {xs:List PF} {v:Value}
  (hcb:Cb Tryz.prog f fn cap S It ok step (fun v x=>∃ cs,v=.agg cs.toArray/\RdF S cs x) xs) (h:RdSl S 6 (RdF S) v xs) {st:σ} (hok:ok st) :
  Tri Tryz.prog rl [v,fv f cap] (It st) S fun r I' S'=>r=.int .i64 (cZ step st xs 0).1/\I'=It (cZ step st xs 0).2/\S'=S:=by
 intro w hI
 have hlen:=h.le
 simp only [maxLen] at hlen
 refine jp.2 ?_
 dsimp only[jp,aX]
 refine aD h bS ?_
 refine ⟨fun i w'=>∃ (k:Nat) (st':σ),k<=xs.length/\i=.int .i64 k/\ok st'/\cZ step st' (xs.drop k) k=cZ step st xs 0/\Inv w (bE (It st)) (It st') S w',fun i _=>xs.length - (intOf i).toNat,
  ⟨0,st,Nat.zero_le _,rfl,hok,rfl,hI⟩,?_⟩
 intro t8 _ _ _ _ _ _ _ _ _ _ _ _ w'
 rintro ⟨k,st',hk,rfl,hok',hrel,hI⟩
 refine bA ?_
 refine aI (fun hki=>?_) (fun hki=>?_)
 ·have hk':k<xs.length:=by omega
  have hm:=List.getElem_mem hk'
  have hstep:cZ step st' (xs.drop k) k=if (step st' xs[k]).1 then ((k:Int),(step st' xs[k]).2) else cZ step (step st' xs[k]).2 (xs.drop (k+1)) (k+1):=by
   rw [List.drop_eq_getElem_cons hk',cZ]
  refine ch hI h bS aT hk' (fun _ _=>RdF.length) fun cs hcs=>?_
  refine Run.callV (A:=[]) (args:=[.agg cs.toArray]) hcb.hf hcb.hn (by simpa using hI) (hcb.call st' _ _ hm hok' ⟨cs,rfl,hcs⟩) fun v' I' S' w'=>?_
  rintro ⟨rfl,rfl,rfl⟩ _ hI
  refine az (fun hb=>?_) (fun hb=>?_)
  ·rw [if_pos hb] at hstep
   refine ⟨_,_,_,rfl,by simpa using hI,Ext.refl _ _ _,?_,?_,rfl⟩
   ·rw [<- hrel,hstep]
   ·rw [<- hrel,hstep]
  ·refine bn (by omega) ?_
   rw [hb] at hstep
   refine ⟨⟨k+1,_,hk',rfl,hcb.keep st' _ hm hok' hb,?_,by simpa using hI⟩,by simp [intOf]; omega⟩
   rw [<- hrel,hstep]
   rfl
 ·have:k=xs.length:=by omega
  subst this
  rw [List.drop_length,cZ] at hrel
  exact ⟨_,_,_,rfl,hI,Ext.refl _ _ _,by rw [<- hrel],by rw [<- hrel],rfl⟩
theorem pe {σ:Type} {f:FuncId} {fn:Func} {cap:List Value} {S:ae} {It:σ->List Item} {ok:σ->Prop} {step:σ->PF->Bool × σ} {xs:List PF} {v:Value}
  (hcb:Cb Tryz.prog f fn cap S It ok step (fun v x=>∃ cs,v=.agg cs.toArray/\RdF S cs x) xs) (h:RdSl S 6 (RdF S) v xs) {st:σ} (hok:ok st) :
  Tri Tryz.prog ow [v,fv f cap] (It st) S fun r I' S'=>r=.bool (lz step st xs).1/\I'=It (lz step st xs).2/\S'=S:=by
 intro w hI
 refine hK.2 ?_
 dsimp only[hK,aX]
 refine Run.call (A:=[]) ql pR (by simpa using hI) (tF hcb h hok) fun v' I' S' w'=>?_
 rintro ⟨rfl,rfl,rfl⟩ _ hI
 refine fY ?_
 have he:=kN step xs st 0
 exact ⟨_,_,_,rfl,by simpa using hI,Ext.refl _ _ _,by rw [he.1],by rw [he.2],rfl⟩
end
def tZ (g:T) (c:Int) (l:Nat):Bool:=ef g && ((decide (-1<=c) && decide (c<=19)) && decide (l<=6))
mutual
def fN:PF->Int->Int->Bool × Int
 | .mk g c ks,deep,n=>if 60<n+1 ∨ 20<deep then (false,n+1) else if tZ g c ks.length=true then g6 ks (deep+1) (n+1) else (false,n+1)
def g6:List PF->Int->Int->Bool × Int
 | [],_,n=>(true,n)
 | t::ts,deep,n=>if (fN t deep n).1 then g6 ts deep (fN t deep n).2 else (false,(fN t deep n).2)
end
mutual
def pf:PF->Int->Bool
 | .mk g c ks,d=>decide (1<=d) && (tZ g c ks.length && qK ks (d - 1))
def qK:List PF->Int->Bool
 | [],_=>true
 | t::ts,d=>pf t d && qK ts d
end
mutual
def lA:PF->Int
 | .mk _ _ ks=>1+gF ks
def gF:List PF->Int
 | []=>0
 | t::ts=>lA t+gF ts
end
def gi (x:PF):Bool:=pf x 20 && decide (lA x<=60)
mutual
theorem Cg:∀ t:PF,1<=lA t
 | .mk _ _ ks=>by
  have:=m7 ks
  rw [lA]; omega
theorem m7:∀ ts:List PF,0<=gF ts
 | []=>Int.le_refl _
 | t::ts=>by
  have h1:=Cg t
  have h2:=m7 ts
  rw [gF]; omega
end
mutual
theorem AW:∀ (t:PF) (deep n:Int),(fN t deep n).1=(pf t (21 - deep) && decide (n+lA t<=60))/\((fN t deep n).1=true->(fN t deep n).2=n+lA t)
 | .mk g c ks,deep,n=>by
  have hl:=m7 ks
  rw [fN,pf,lA]
  by_cases h1:60<n+1 ∨ 20<deep
  ·rw [if_pos h1]
   refine ⟨?_,fun h=>by cases h⟩
   rcases h1 with h1|h1
   ·rw [decide_eq_false (show ¬ (n+(1+gF ks)<=60) by omega),Bool.and_false]
   ·rw [decide_eq_false (show ¬ (1<=21 - deep) by omega)]; rfl
  ·rw [if_neg h1,decide_eq_true (show 1<=21 - deep by omega),Bool.true_and]
   cases hn:tZ g c ks.length with
   | false=>exact ⟨rfl,fun h=>by cases h⟩
   | true=>
    rw [if_pos rfl,Bool.true_and]
    have:=EQ ks (deep+1) (n+1)
    rw [show 21 - (deep+1)=21 - deep - 1 by omega] at this
    rw [show n+(1+gF ks)=n+1+gF ks by omega]
    refine ⟨?_,this.2⟩
    rw [this.1]
    cases ks with
    | nil=>rw [show gF []=0 from rfl,decide_eq_true (show n+1+0<=60 by omega)]; rfl
    | cons t ts=>simp
theorem EQ:∀ (ts:List PF) (deep n:Int),(g6 ts deep n).1=(qK ts (21 - deep) && (ts.isEmpty || decide (n+gF ts<=60)))/\((g6 ts deep n).1=true->(g6 ts deep n).2=n+gF ts)
 | [],deep,n=>by simp [g6,qK,gF]
 | t::ts,deep,n=>by
  have ht:=AW t deep n
  have hp:=m7 ts
  rw [g6,qK,gF,List.isEmpty_cons,Bool.false_or]
  cases h1:(fN t deep n).1 with
  | false=>
   rw [h1] at ht
   have h2:=ht.1
   refine ⟨?_,fun h=>by cases h⟩
   simp only [Bool.false_eq_true,if_false]
   cases hs:pf t (21 - deep) with
   | false=>rfl
   | true=>
    rw [hs,Bool.true_and] at h2
    have:¬ (n+lA t<=60):=of_decide_eq_false h2.symm
    rw [decide_eq_false (show ¬ (n+(lA t+gF ts)<=60) by omega),Bool.and_false]
  | true=>
   rw [h1] at ht
   have h2:=ht.1
   have h3:=ht.2 rfl
   simp only [if_true]
   rw [h3]
   have hs:pf t (21 - deep)=true/\n+lA t<=60:=by
    have:=h2.symm
    simpa using this
   have hl:=EQ ts deep (n+lA t)
   rw [show n+(lA t+gF ts)=n+lA t+gF ts by omega]
   refine ⟨?_,hl.2⟩
   rw [hl.1,hs.1,Bool.true_and]
   cases ts with
   | nil=>rw [show gF []=0 from rfl,decide_eq_true (show n+lA t+0<=60 by omega)]; rfl
   | cons u us=>simp
end
theorem IR (t:PF):(fN t 1 0).1=gi t:=by
 rw [(AW t 1 0).1,gi]
 simp
theorem IF:∀ (t:PF) (deep n:Int),n<=60->(fN t deep n).1=true->n<(fN t deep n).2/\(fN t deep n).2<=60:=by
 intro t deep n hn h
 have:=AW t deep n
 rw [this.2 h]
 have h1:=this.1
 rw [h] at h1
 have h2:=h1.symm
 simp at h2
 have:=Cg t
 omega
theorem Cp (deep:Int):∀ (ks:List PF) (n:Int),lz (fun n t=>(!(fN t deep n).1,(fN t deep n).2)) n ks=(!(g6 ks deep n).1,(g6 ks deep n).2)
 | [],n=>by simp [lz,g6]
 | t::ts,n=>by
  by_cases h:(fN t deep n).1=true
  ·simp [lz,g6,h,Cp deep ts]
  ·simp [lz,g6,h]
mutual
def sf:PF->Int->Int
 | .mk _ _ ks,m=>i4 ks 1 m
def i4:List PF->Int->Int->Int
 | [],n,_=>n
 | t::ts,n,m=>if n<=m then i4 ts (n+sf t (m - n)) m else n
end
mutual
theorem AM:∀ (t:PF) (m:Int),0<=m->1<=sf t m/\sf t m<=m+1/\(lA t<=m->sf t m=lA t)/\(m<lA t->m<sf t m)
 | .mk g c ks,m,hm=>by
  have h:=DW ks 1 m hm (by omega) (by omega)
  rw [sf,lA]
  exact h
theorem DW:∀ (ts:List PF) (n m:Int),0<=m->1<=n->n<=m+1->1<=i4 ts n m/\i4 ts n m<=m+1/\(n+gF ts<=m->i4 ts n m=n+gF ts)/\(m<n+gF ts->m<i4 ts n m)
 | [],n,m,hm,hn,hn2=>by rw [i4,gF]; omega
 | t::ts,n,m,hm,hn,hn2=>by
  have hp:=m7 ts
  have hp1:=Cg t
  rw [i4,gF]
  split
  ·rename_i hle
   obtain ⟨h1,h2,h3,h4⟩:=AM t (m - n) (by omega)
   obtain ⟨g1,g2,g3,g4⟩:=DW ts (n+sf t (m - n)) m hm (by omega) (by omega)
   refine ⟨g1,g2,fun h=>?_,fun h=>?_⟩
   ·have:=h3 (by omega)
    rw [g3 (by omega)]
    omega
   ·by_cases hc:lA t<=m - n
    ·have:=h3 hc
     exact g4 (by omega)
    ·have:=h4 (by omega)
     exact g4 (by omega)
  ·omega
end
theorem O5 (t:PF):decide (sf t 60<=60)=decide (lA t<=60):=by
 obtain ⟨_,_,h3,h4⟩:=AM t 60 (by omega)
 rw [decide_eq_decide]
 constructor
 ·intro h
  rcases Int.lt_or_le 60 (lA t) with h5|h5
  ·have:=h4 h5; omega
  ·exact h5
 ·intro h
  rw [h3 h]; exact h
section
attribute [local irreducible] Run CondV aB aS
theorem zH:∀ (t:PF) (S:ae) (cs:List Value) (deep n:Int) (bc:Nat),RdF S cs t->0<=deep->deep<=21->0<=n->n<=60->
  Tri Tryz.prog Dp [.agg cs.toArray,.int .i64 deep,.pointer (some ⟨bc,0,none⟩)] [eX bc n] S (mZ bc S (fN t deep n)):=by
 refine PF.ind fun g c ks ih S cs deep n bc h hd0 hd1 hc0 hc1=>?_
 intro w hI
 obtain ⟨kv,kf,rfl,hg,hc,hks⟩:=RdF.iff.1 h
 simp only [PF.goal,PF.kids,PF.clause] at hg hc hks ⊢
 have hend:∀ {L:List Item} {w':World} {v:Value} (r:Bool × Int),Inv w (bE [eX bc n]) (eX bc r.2::L) S w'->v=.bool r.1->r=fN (.mk g c ks) deep n->
   ∃ v' I' S',Ending.returned v=.returned v'/\Inv w (bE [eX bc n]) I' S' w'/\Ext w.heap.size (bE [eX bc n]) S S'/\mZ bc S (fN (.mk g c ks) deep n) v' I' S':=by
  intro L w' v r h1 h2 h3
  subst h3
  exact ⟨_,_,_,rfl,h1.pick [true],Ext.refl _ _ _,h2,rfl,rfl⟩
 refine pO.2 ?_
 dsimp only[pO,cX]
 refine be hI fun b3 w' hI=>?_
 refine be hI fun b4 w' hI=>?_
 refine be hI fun b5 w' hI=>?_
 refine aA hI 3 rb rfl rfl ?_
 refine bD ?_
 refine aA hI 0 aw rfl rfl ?_
 refine bn (by omega) ?_
 refine bD ?_
 refine dK hI 0 (n:=1) rfl (by rw [aw]; rfl) rfl (Nat.le_of_ble_eq_true rfl) (by simp [Value.cells]; rfl) fun w' hI=>?_
 have hI:Inv w (bE [eX bc n]) [eX bc (n+1),.blk b3 (.cells #[.int .i64 g.kind,.int .i64 g.n,.string g.name,kv,.int .i64 c,kf] ah),.blk b4 (.cells #[.int .i64 deep] cD),.blk b5 (.cells #[.pointer (some ⟨bc,0,none⟩)] gI)] S w':=hI
 have hkl:decide ((6:Int)<(ks.length:Int))=!decide (ks.length<=6):=by
  rw [<- decide_not,decide_eq_decide]; omega
 refine ⟨fun t w'=>t=.bool (decide (60<n+1 ∨ 20<deep) || !tZ g c ks.length)/\Inv w (bE [eX bc n]) [eX bc (n+1),.blk b3 (.cells #[.int .i64 g.kind,.int .i64 g.n,.string g.name,kv,.int .i64 c,kf] ah),.blk b4 (.cells #[.int .i64 deep] cD),.blk b5 (.cells #[.pointer (some ⟨bc,0,none⟩)] gI)] S w',?_,?_⟩
 ·refine aA hI 3 rb rfl rfl ?_
  refine bD ?_
  refine aA hI 0 aw rfl rfl ?_
  refine dv ?_
  cases h1:decide ((60:Int)<n+1)
  ·have h1:=of_decide_eq_false h1
   refine rpG ?_
   refine aA hI 2 aw rfl rfl ?_
   refine dv ?_
   cases h2:decide ((20:Int)<deep)
   ·have h2:=of_decide_eq_false h2
    rw [decide_eq_false (fun h=>h.elim h1 h2),Bool.false_or,tZ]
    refine rpG ?_
    refine ai cP ?_
    refine b0 hI 1 [_,_,_,_] ac rfl rfl sH ?_
    refine Run.callPure pX qL hI (mM hg) fun w' hI=>?_
    refine bM ?_
    cases h3:ef g
    ·refine rpG ?_
     exact ⟨rfl,hI⟩
    refine rpG ?_
    refine ad hI 1 rfl cN aw rfl ?_
    refine Run.callPure g7 ia hI (gw _ _ _ S) fun w' hI=>?_
    refine bM ?_
    cases h4:(decide (-1<=c) && decide (c<=19))
    ·refine rpG ?_
     exact ⟨rfl,hI⟩
    refine rpG ?_
    refine ad hI 1 rfl bk bp rfl ?_
    refine aD hks bS ?_
    refine dv ?_
    rw [hkl]
    refine rpG ?_
    exact ⟨rfl,hI⟩
   ·refine rpG ?_
    rw [decide_eq_true (.inr (of_decide_eq_true h2)),Bool.true_or]
    exact ⟨rfl,hI⟩
  ·refine rpG ?_
   rw [decide_eq_true (.inl (of_decide_eq_true h1)),Bool.true_or]
   exact ⟨rfl,hI⟩
 intro q _ _ _ _ _ _ _ _ _ _ _ _ _ _ _ _ _ _ _ _ _ _ _ _ _ w'
 rintro ⟨rfl,hI⟩
 refine az (fun hb=>?_) (fun hb=>?_)
 ·refine hend (false,n+1) hI rfl ?_
  rw [fN]
  by_cases h1:60<n+1 ∨ 20<deep
  ·rw [if_pos h1]
  ·rw [decide_eq_false h1,Bool.false_or,Bool.not_eq_true'] at hb
   rw [if_neg h1,hb]
   rfl
 ·rw [Bool.or_eq_false_iff,Bool.not_eq_false'] at hb
  have hsc:fN (.mk g c ks) deep n=g6 ks (deep+1) (n+1):=by
   rw [fN,if_neg (of_decide_eq_false hb.1),if_pos hb.2]
  have hn60:=of_decide_eq_false hb.1
  refine ad hI 1 rfl bk bp rfl ?_
  refine sZ ?_
  have hcb:Cb Tryz.prog zU Tryz.f66 [.pointer (some ⟨b4,0,none⟩),.pointer (some ⟨b5,0,none⟩)] S
    (fun c:Int=>[eX bc c,.blk b4 (.cells #[.int .i64 deep] cD),.blk b5 (.cells #[.pointer (some ⟨bc,0,none⟩)] gI)]) (fun c=>0<=c/\c<=60)
    (fun c t=>(!(fN t (deep+1) c).1,(fN t (deep+1) c).2)) (fun v x=>∃ cs,v=.agg cs.toArray/\RdF S cs x) ks:=by
   refine ⟨xX,xR,fun st x _ hst hf=>?_,fun st x v hx hst=>?_⟩
   ·have:=IF x (deep+1) st hst.2 (by simpa using hf)
    omega
   ·rintro ⟨cs,rfl,hcs⟩ w1 hI
    have hl:=hcs.length
    refine mQ.2 ?_
    dsimp only[mQ,cX]
    refine be hI fun b w' hI=>?_
    refine aq hI 3 aT rfl (by simpa [Value.cells] using hl) ?_
    refine aA hI 1 aw rfl rfl ?_
    refine bn (by omega) ?_
    refine aA hI 2 rb rfl rfl ?_
    have hI:=hI.perm (M:=[.blk b4 (.cells #[.int .i64 deep] cD),.blk b5 (.cells #[.pointer (some ⟨bc,0,none⟩)] gI),.blk b (.cells (Value.agg cs.toArray).cells ah)]++[eX bc st])
     (List.perm_append_comm (l₁:=[_,_,_]) (l₂:=[eX bc st]))
    refine Run.call qp pH hI (ih x hx S cs (deep+1) st bc hcs (by omega) (by omega) hst.1 hst.2) fun v' I' S' w'=>?_
    rintro ⟨rfl,rfl,rfl⟩ _ hI
    refine bM ?_
    have hI:=(hI.perm (M:=[eX bc (fN x (deep+1) st).2]++[.blk b4 (.cells #[.int .i64 deep] cD),.blk b5 (.cells #[.pointer (some ⟨bc,0,none⟩)] gI),.blk b (.cells (Value.agg cs.toArray).cells ah)])
     List.perm_append_comm).pick [true,true,true,false]
    exact ⟨_,_,_,rfl,hI,Ext.refl _ _ _,rfl,rfl,rfl⟩
  have hI:=hI.perm (M:=[.blk b3 (.cells #[.int .i64 g.kind,.int .i64 g.n,.string g.name,kv,.int .i64 c,kf] ah)]++[eX bc (n+1),.blk b4 (.cells #[.int .i64 deep] cD),.blk b5 (.cells #[.pointer (some ⟨bc,0,none⟩)] gI)]) (List.Perm.swap _ _ _)
  refine Run.call mE ne hI (pe hcb hks ⟨by omega,by omega⟩) fun v' I' S' w'=>?_
  rintro ⟨rfl,rfl,rfl⟩ _ hI
  refine bM ?_
  rw [Cp] at hI ⊢
  have hI:=hI.perm (M:=[eX bc (g6 ks (deep+1) (n+1)).2,.blk b3 (.cells #[.int .i64 g.kind,.int .i64 g.n,.string g.name,kv,.int .i64 c,kf] ah),.blk b4 (.cells #[.int .i64 deep] cD),.blk b5 (.cells #[.pointer (some ⟨bc,0,none⟩)] gI)]) (List.Perm.swap _ _ _)
  exact hend (g6 ks (deep+1) (n+1)) hI (by simp) hsc.symm
theorem uD {t:PF} {S:ae} {cs:List Value} (h:RdF S cs t):Pure Tryz.prog AP [.agg cs.toArray] S (.bool (gi t)):=by
 intro w hI
 have hl:=h.length
 refine oR.2 ?_
 dsimp only[oR,aO]
 refine be hI fun b1 w' hI=>?_
 refine aG hI OM fun b2 w' hI=>?_
 refine dK hI 1 (n:=1) rfl (by rw [aw]; rfl) rfl (Nat.le_of_ble_eq_true rfl) (by simp [Value.cells]; rfl) fun w' hI=>?_
 refine aq hI 0 aT rfl (by simpa [Value.cells] using hl) ?_
 refine Run.call (A:=[_]) (I:=[eX b2 0]) qp pH hI (zH t S cs 1 0 b2 h (by omega) (by omega) (by omega) (by omega)) fun v' I' S' w'=>?_
 rintro ⟨rfl,rfl,rfl⟩ _ hI
 exact done hI (by rw [IR])
theorem Cw:∀ (t:PF) (S:ae) (cs:List Value) (d:Int),RdF S cs t->wF t<=1048576->-100<=d->d<=100->Pure Tryz.prog GG [.agg cs.toArray,.int .i64 d] S (.bool (pf t d)):=by
 refine PF.ind fun g c ks ih S cs d h hw hd0 hd1=>?_
 intro w hI
 obtain ⟨kv,kf,rfl,hg,hc,hks⟩:=RdF.iff.1 h
 simp only [PF.goal,PF.kids,PF.clause] at hg hc hks ⊢
 have hlen:=hks.le
 simp only [maxLen] at hlen
 rw [wF] at hw
 rw [pf]
 refine sC.2 ?_
 dsimp only[sC,aX]
 refine be hI fun b2 w' hI=>?_
 have hI:Inv w [] [.blk b2 (.cells #[.int .i64 g.kind,.int .i64 g.n,.string g.name,kv,.int .i64 c,kf] ah)] S w':=hI
 have hkl:decide ((6:Int)<(ks.length:Int))=!decide (ks.length<=6):=by
  rw [<- decide_not,decide_eq_decide]; omega
 have hcl:decide (c < -1)=!decide (-1<=c):=by rw [<- decide_not,decide_eq_decide]; omega
 have hcg:decide ((20:Int)<=c)=!decide (c<=19):=by rw [<- decide_not,decide_eq_decide]; omega
 have hdl:decide (d<1)=!decide (1<=d):=by rw [<- decide_not,decide_eq_decide]; omega
 refine ⟨fun t w'=>t=.bool (!(decide (1<=d) && tZ g c ks.length))/\Inv w [] [.blk b2 (.cells #[.int .i64 g.kind,.int .i64 g.n,.string g.name,kv,.int .i64 c,kf] ah)] S w',?_,?_⟩
 ·refine bA ?_
  rw [hdl,tZ]
  cases h1:decide (1<=d)
  ·refine rpG ?_
   exact ⟨rfl,hI⟩
  refine rpG ?_
  refine ai cP ?_
  refine b0 hI 0 [_,_,_,_] ac rfl rfl sH ?_
  refine Run.callPure kK kQ hI (i5 hg (by omega)) fun w' hI=>?_
  refine bM ?_
  cases h3:ef g
  ·refine rpG ?_
   exact ⟨rfl,hI⟩
  refine rpG ?_
  refine ad hI 0 rfl cN aw rfl ?_
  refine bA ?_
  rw [hcl]
  cases h4:decide (-1<=c)
  ·refine rpG ?_
   exact ⟨rfl,hI⟩
  refine rpG ?_
  refine ad hI 0 rfl cN aw rfl ?_
  refine fY ?_
  rw [hcg]
  cases h5:decide (c<=19)
  ·refine rpG ?_
   exact ⟨rfl,hI⟩
  refine rpG ?_
  refine ad hI 0 rfl bk bp rfl ?_
  refine aD hks bS ?_
  refine dv ?_
  rw [hkl]
  refine rpG ?_
  exact ⟨rfl,hI⟩
 intro q _ _ _ _ _ _ _ _ _ _ _ _ _ _ _ _ _ _ _ _ _ _ _ w'
 rintro ⟨rfl,hI⟩
 refine az (fun hb=>done hI ?_) (fun hb=>?_)
 ·rw [Bool.not_eq_true'] at hb
  rw [<- Bool.and_assoc,hb]; rfl
 rw [Bool.not_eq_false',Bool.and_eq_true] at hb
 rw [hb.1,hb.2,Bool.true_and,Bool.true_and]
 refine ⟨fun i w'=>∃ k:Nat,k<=ks.length/\i=.int .i64 k/\qK (ks.drop k) (d - 1)=qK ks (d - 1)/\Inv w [] [.blk b2 (.cells #[.int .i64 g.kind,.int .i64 g.n,.string g.name,kv,.int .i64 c,kf] ah)] S w',
  fun i _=>ks.length - (intOf i).toNat,⟨0,Nat.zero_le _,rfl,rfl,hI⟩,?_⟩
 intro i _ _ _ _ _ _ _ _ _ _ _ _ _ _ _ _ _ w'
 rintro ⟨k,hk,rfl,hrel,hI⟩
 refine ad hI 0 rfl bk bp rfl ?_
 refine aD hks bS ?_
 refine bA ?_
 refine aI (fun hki=>?_) (fun hki=>?_)
 ·have hk':k<ks.length:=by omega
  have hm:=List.getElem_mem hk'
  have hwm:=Al hm
  rw [List.drop_eq_getElem_cons hk',qK] at hrel
  refine ad hI 0 rfl bk bp rfl ?_
  refine ch hI hks bS aT hk' (fun _ _=>RdF.length) fun ds hds=>?_
  refine ib (by omega) ?_
  have hge:1<=d:=of_decide_eq_true hb.1
  refine Run.callPure rM rW hI (ih _ hm S ds (d - 1) hds (by omega) (by omega) (by omega)) fun w' hI=>?_
  refine bM ?_
  refine az (fun hne=>done hI ?_) (fun he=>?_)
  ·rw [Bool.not_eq_true'] at hne
   rw [<- hrel,hne]; rfl
  ·rw [Bool.not_eq_false'] at he
   rw [he,Bool.true_and] at hrel
   refine bn (by omega) ?_
   exact ⟨⟨k+1,hk',rfl,hrel,hI⟩,by simp [intOf]; omega⟩
 ·have:k=ks.length:=by omega
  subst this
  exact done hI (by rw [<- hrel,List.drop_length]; rfl)
theorem Dh:∀ (t:PF) (S:ae) (cs:List Value) (m:Int),RdF S cs t->0<=m->m<=1000000->Pure Tryz.prog In [.agg cs.toArray,.int .i64 m] S (.int .i64 (sf t m)):=by
 refine PF.ind fun g c ks ih S cs m h hm0 hm1=>?_
 intro w hI
 obtain ⟨kv,kf,rfl,hg,hc,hks⟩:=RdF.iff.1 h
 simp only [PF.goal,PF.kids,PF.clause] at hg hc hks ⊢
 have hlen:=hks.le
 simp only [maxLen] at hlen
 rw [sf]
 refine vB.2 ?_
 dsimp only[vB,aX]
 refine be hI fun b2 w' hI=>?_
 have hI:Inv w [] [.blk b2 (.cells #[.int .i64 g.kind,.int .i64 g.n,.string g.name,kv,.int .i64 c,kf] ah)] S w':=hI
 refine ⟨fun i t w'=>∃ (k:Nat) (n:Int),k<=ks.length/\i=.int .i64 k/\t=.int .i64 n/\1<=n/\n<=m+1/\i4 (ks.drop k) n m=i4 ks 1 m/\Inv w [] [.blk b2 (.cells #[.int .i64 g.kind,.int .i64 g.n,.string g.name,kv,.int .i64 c,kf] ah)] S w',
  fun i _ _=>ks.length - (intOf i).toNat,⟨0,1,Nat.zero_le _,rfl,rfl,by omega,by omega,rfl,hI⟩,?_⟩
 intro i _ _ t _ _ _ _ _ _ _ _ _ _ _ _ _ _ _ _ _ _ _ _ _ w'
 rintro ⟨k,n,hk,rfl,rfl,hn0,hn1,hrel,hI⟩
 refine ⟨fun q w'=>q=.bool (decide (k<ks.length) && decide (n<=m))/\Inv w [] [.blk b2 (.cells #[.int .i64 g.kind,.int .i64 g.n,.string g.name,kv,.int .i64 c,kf] ah)] S w',?_,?_⟩
 ·refine ad hI 0 rfl bk bp rfl ?_
  refine aD hks bS ?_
  refine bA ?_
  have el:decide ((k:Int)<(ks.length:Int))=decide (k<ks.length):=by rw [decide_eq_decide]; omega
  rw [el]
  cases h1:decide (k<ks.length)
  ·refine rpG ?_
   exact ⟨rfl,hI⟩
  refine rpG ?_
  refine eK ?_
  refine rpG ?_
  exact ⟨rfl,hI⟩
 intro q _ _ _ _ _ _ _ _ _ w'
 rintro ⟨rfl,hI⟩
 refine az (fun hb=>?_) (fun hb=>?_)
 ·rw [Bool.and_eq_true,decide_eq_true_eq,decide_eq_true_eq] at hb
  obtain ⟨hk',hnm⟩:=hb
  have hm:=List.getElem_mem hk'
  rw [List.drop_eq_getElem_cons hk',i4,if_pos hnm] at hrel
  obtain ⟨s1,s2,_,_⟩:=AM ks[k] (m - n) (by omega)
  refine ad hI 0 rfl bk bp rfl ?_
  refine ch hI hks bS aT hk' (fun _ _=>RdF.length) fun ds hds=>?_
  refine ib (by omega) ?_
  refine Run.callPure vx tU hI (ih _ hm S ds (m - n) hds (by omega) (by omega)) fun w' hI=>?_
  refine bn (by omega) ?_
  refine bn (by omega) ?_
  exact ⟨⟨k+1,_,hk',rfl,rfl,by omega,by omega,hrel,hI⟩,by simp [intOf]; omega⟩
 ·refine done hI ?_
  rw [<- hrel]
  by_cases hk':k<ks.length
  ·rw [decide_eq_true hk',Bool.true_and] at hb
   rw [List.drop_eq_getElem_cons hk',i4,if_neg (of_decide_eq_false hb)]
  ·have:k=ks.length:=by omega
   subst this
   rw [List.drop_length,i4]
theorem lY {t:PF} {S:ae} {cs:List Value} (h:RdF S cs t) (hw:wF t<=1048576):Pure Tryz.prog BL [.agg cs.toArray] S (.bool (gi t)):=by
 intro w hI
 have hl:=h.length
 refine oI.2 ?_
 dsimp only[oI,aO]
 refine be hI fun b1 w' hI=>?_
 refine aq hI 0 aT rfl (by simpa [Value.cells] using hl) ?_
 refine Run.callPure rM rW hI (Cw t S cs 20 h hw (by omega) (by omega)) fun w' hI=>?_
 rw [gi]
 cases hs:pf t 20
 ·refine rpG ?_
  exact done hI rfl
 refine rpG ?_
 refine aq hI 0 aT rfl (by simpa [Value.cells] using hl) ?_
 refine Run.callPure vx tU hI (Dh t S cs 60 h (by omega) (by omega)) fun w' hI=>?_
 refine eK ?_
 rw [O5]
 refine rpG ?_
 exact done hI rfl
end
end
section
open Go Go.RowKit
section
variable {S:ae} {ys:List Nat} {v:Value}
attribute [local irreducible] Run CondV aB aS
end
end
section
open Go Go.RowKit

section
attribute [local irreducible] Run CondV aB aS
end
end
section
open Go Go.RowKit
mutual
def sbT (σ:Int->T):T->T
 | .mk k n s ks=>if k=1 then σ n else .mk k n s (sbL σ ks)
def sbL (σ:Int->T):List T->List T
 | []=>[]
 | t::ts=>sbT σ t::sbL σ ts
end
theorem FR (σ:Int->T):∀ ts:List T,(sbL σ ts).length=ts.length
 | []=>rfl
 | t::ts=>by rw [sbL,List.length_cons,FR σ ts,List.length_cons]
def idS (n:Int):T:=.mk 1 n emptyB []
mutual
theorem NF {N:Nat}:∀ t:T,okU N t->sbT idS t=t
 | .mk k n s ks,h=>by
  rw [okU] at h
  by_cases hk:k=1
  ·obtain ⟨_,_,rfl,rfl⟩:=h.2.1 hk
   rw [sbT,if_pos hk,hk,idS]
  ·rw [sbT,if_neg hk,Pr ks h.2.2.1]
theorem Pr {N:Nat}:∀ ts:List T,dC N ts->sbL idS ts=ts
 | [],_=>rfl
 | t::ts,h=>by
  rw [dC] at h
  rw [sbL,NF t h.1,Pr ts h.2]
end
def Agk (σ:Int->T) (st:aC):Prop:=∀ (i:Nat) (t:T),st[i]?=some (some t)->σ i=t
def Gek (st st':aC):Prop:=st'.length=st.length/\∀ (i:Nat) (t:T),st[i]?=some (some t)->st'[i]?=some (some t)
theorem Gek.refl (st:aC):Gek st st:=⟨rfl,fun _ _ h=>h⟩
theorem Gek.trans {a b c:aC} (h:Gek a b) (h':Gek b c):Gek a c:=⟨h'.1.trans h.1,fun i t hi=>h'.2 i t (h.2 i t hi)⟩
theorem Agk.less {σ:Int->T} {a b:aC} (h:Agk σ b) (hg:Gek a b):Agk σ a:=fun i t hi=>h i t (hg.2 i t hi)
theorem Hn {t u:T}:ic t u=true↔t.kind=u.kind/\t.n=u.n/\t.name=u.name/\t.kids.length=u.kids.length:=by
 simp [ic]
mutual
theorem qW:∀ (t u:T) (st:aC),okV t->Gek st (bL t u st).2
 | .mk k n s ks,u,st,hv=>by
  rw [okV] at hv
  rw [bL]
  by_cases hk:k=1
  ·rw [if_pos hk]
   split
   ·exact Gek.refl _
   ·rename_i hno
    refine ⟨by simp,fun i t hi=>?_⟩
    rw [List.getElem?_set]
    split
    ·rename_i e
     subst e
     exact absurd hi (hno t)
    ·exact hi
  ·rw [if_neg hk]
   split
   ·exact wO ks u.kids st hv.2
   ·exact Gek.refl _
theorem wO:∀ (ts us:List T) (st:aC),qI ts->Gek st (dS ts us st).2
 | [],_,st,_=>by rw [dS]; exact Gek.refl _
 | _::_,[],st,_=>by rw [dS]; exact Gek.refl _
 | t::ts,u::us,st,hv=>by
  rw [qI] at hv
  rw [dS]
  split
  ·exact (qW t u st hv.1).trans (wO ts us _ hv.2)
  ·exact qW t u st hv.1
end
mutual
theorem uJ (σ:Int->T):∀ (t u:T) (st:aC),okV t->st.length=26->(bL t u st).1=true->Agk σ (bL t u st).2->sbT σ t=u
 | .mk k n s ks,u,st,hv,hl,hm,ha=>by
  rw [okV] at hv
  rw [bL] at hm ha
  by_cases hk:k=1
  ·obtain ⟨h0,h1⟩:=hv.1 hk
   rw [if_pos hk] at hm ha
   rw [sbT,if_pos hk]
   split at hm
   ·rename_i t0 hst
    rw [hst] at ha
    have:=ha n.toNat t0 hst
    rw [Int.toNat_of_nonneg h0] at this
    rw [this]
    exact (FL _ _).1 hm
   ·rename_i hno
    split at ha
    ·rename_i t0 hst
     exact absurd hst (hno t0)
    ·have:=ha n.toNat u (by rw [List.getElem?_set_self (by omega)])
     rwa [Int.toNat_of_nonneg h0] at this
  ·rw [if_neg hk] at hm ha
   rw [sbT,if_neg hk]
   split at hm
   ·rename_i hh
    rw [if_pos hh] at ha
    obtain ⟨h1,h2,h3,h4⟩:=Hn.1 hh
    have:=vD σ ks u.kids st hv.2 hl (Nat.le_of_eq h4) hm ha
    rw [this]
    cases u
    simp only [T.kind,T.n,T.name,T.kids] at h1 h2 h3 ⊢
    rw [h1,h2,h3]
    congr 1
    rw [List.take_of_length_le]
    simp only [T.kids] at h4
    omega
   ·cases hm
theorem vD (σ:Int->T):∀ (ts us:List T) (st:aC),qI ts->st.length=26->ts.length<=us.length->(dS ts us st).1=true->Agk σ (dS ts us st).2->sbL σ ts=us.take ts.length
 | [],us,st,_,_,_,_,_=>by rw [sbL]; rfl
 | t::ts,[],st,_,_,hlen,_,_=>by simp at hlen
 | t::ts,u::us,st,hv,hl,hlen,hm,ha=>by
  rw [qI] at hv
  rw [dS] at hm ha
  split at hm
  ·rename_i h1
   rw [if_pos h1] at ha
   have hg:=qW t u st hv.1
   have hg2:=wO ts us (bL t u st).2 hv.2
   rw [sbL,List.length_cons,List.take_succ_cons,uJ σ t u st hv.1 hl h1 (ha.less hg2),vD σ ts us _ hv.2 (hg.1.trans hl) (by simpa using hlen) hm ha]
  ·cases hm
end
mutual
theorem ue (σ:Int->T):∀ (t u:T) (st:aC),okV t->st.length=26->Agk σ st->sbT σ t=u->(bL t u st).1=true/\Agk σ (bL t u st).2
 | .mk k n s ks,u,st,hv,hl,ha,hs=>by
  rw [okV] at hv
  rw [bL]
  by_cases hk:k=1
  ·obtain ⟨h0,h1⟩:=hv.1 hk
   rw [sbT,if_pos hk] at hs
   rw [if_pos hk]
   split
   ·rename_i t0 hst
    have:=ha n.toNat t0 hst
    rw [Int.toNat_of_nonneg h0,hs] at this
    exact ⟨(FL _ _).2 this.symm,ha⟩
   ·refine ⟨rfl,fun i t hi=>?_⟩
    rw [List.getElem?_set] at hi
    split at hi
    ·rename_i e
     subst e
     rw [if_pos (by omega)] at hi
     simp only [Option.some.injEq] at hi
     rw [Int.toNat_of_nonneg h0,hs,hi]
    ·exact ha i t hi
  ·rw [sbT,if_neg hk] at hs
   subst hs
   rw [if_neg hk,if_pos ((Hn (t:=.mk k n s ks) (u:=.mk k n s (sbL σ ks))).2 ⟨rfl,rfl,rfl,(FR σ ks).symm⟩)]
   exact vA σ ks (sbL σ ks) st hv.2 hl ha (by rw [List.take_of_length_le (by rw [FR]; exact Nat.le_refl _)])
theorem vA (σ:Int->T):∀ (ts us:List T) (st:aC),qI ts->st.length=26->Agk σ st->sbL σ ts=us.take ts.length->(dS ts us st).1=true/\Agk σ (dS ts us st).2
 | [],us,st,_,_,ha,_=>by rw [dS]; exact ⟨rfl,ha⟩
 | t::ts,[],st,_,_,_,hs=>by simp [sbL] at hs
 | t::ts,u::us,st,hv,hl,ha,hs=>by
  rw [qI] at hv
  rw [sbL,List.length_cons,List.take_succ_cons,List.cons.injEq] at hs
  rw [dS]
  obtain ⟨h1,h2⟩:=ue σ t u st hv.1 hl ha hs.1
  rw [if_pos h1]
  exact vA σ ts us _ hv.2 ((qW t u st hv.1).1.trans hl) h2 hs.2
end
def ofK (st:aC) (n:Int):T:=match st[n.toNat]? with
 | some (some t)=>t
 | _=>idS n
theorem P6 (st:aC):Agk (ofK st) st:=fun i t h=>by rw [ofK,Int.toNat_natCast,h]
theorem Qf (σ:Int->T):Agk σ st0:=fun i t h=>by
 simp only [st0,List.getElem?_replicate] at h
 split at h <;> cases h
theorem Nj {t u:T} (hv:okV t):(bL t u st0).1=true↔∃ σ,sbT σ t=u:=
 ⟨fun h=>⟨_,uJ _ t u st0 hv (by simp [st0]) h (P6 _)⟩,fun ⟨σ,h⟩=>(ue σ t u st0 hv (by simp [st0]) (Qf σ) h).1⟩
theorem Nz {c:C} (h:ce c=true):okV c.head/\qI c.body:=⟨(rf h).1.1,(rf h).2.1⟩
end
section
open Go Go.RowKit
section
variable {S:ae} {ys zs:List Nat} {v u:Value}
attribute [local irreducible] Run CondV aB aS
theorem RdC.cells {S:ae} {cs:List Value} {c:C} (h:RdC S cs c):∃ kv kb,cs=[.int .i64 c.head.kind,.int .i64 c.head.n,.string c.head.name,kv,kb]/\RdT S [.int .i64 c.head.kind,.int .i64 c.head.n,.string c.head.name,kv] c.head/\RdSl S 4 (RdT S) kb c.body:=by
 obtain ⟨hd,kb,rfl,h1,h2⟩:=h
 have h1':=h1
 obtain ⟨kv,rfl,_⟩:=RdT.iff.1 h1
 exact ⟨kv,kb,rfl,h1',h2⟩
end
end
section
open Go Go.RowKit
mutual
theorem ET:∀ (t:T) (d:Int),eY t d=true->okN t
 | .mk k n s ks,d,h=>by
  rw [eY] at h
  split at h
  ·cases h
  rw [Bool.and_eq_true] at h
  obtain ⟨ho,hk⟩:=h
  rw [okN]
  refine ⟨fun e=>?_,Br ks _ hk⟩
  subst e
  have ho2:eN (.mk 2 n s ks)=(decide (-999<=n) && (decide (n<=999) && (decide (s=emptyB) && decide (ks.length=0)))):=by
   rw [eN]; exact (if_neg (show ¬ (2:Int)=1 by decide)).trans (if_pos rfl)
  rw [ho2,Bool.and_eq_true,Bool.and_eq_true] at ho
  exact ⟨of_decide_eq_true ho.1,of_decide_eq_true ho.2.1⟩
theorem Br:∀ (ts:List T) (d:Int),eU ts d=true->xZ ts
 | [],_,_=>by rw [xZ]; trivial
 | t::ts,d,h=>by
  rw [eU,Bool.and_eq_true] at h
  rw [xZ]
  exact ⟨ET t d h.1,Br ts d h.2⟩
end
theorem EE {t:T} (h:dd t=true):okN t:=ET t 30 (qH h)
theorem oo {t:T} (h:dd t=true):wT t<=840:=by
 have ho:=iO h
 have h1:=KJ t ho
 rw [dd,Bool.and_eq_true] at h
 have h2:dF t<=120:=by simpa using h.2
 omega
theorem ek {g:T} (h:ef g=true):dd g=true:=by
 rw [ef,Bool.and_eq_true] at h; exact h.1
theorem Nb {g:T} (h:ef g=true):decide (g.kind=3)=true:=by
 rw [ef,Bool.and_eq_true,Bool.or_eq_true,Bool.or_eq_true] at h
 rcases h.2 with h|h|h
 ·rw [jR,Bool.and_eq_true] at h; exact h.1
 ·rw [iQ,Bool.and_eq_true] at h; exact h.1
 ·rw [cM,Bool.and_eq_true] at h; exact h.1
def bltF (g:T) (f:Bool):Prop:=(cM g=false/\f=false) ∨ (cM g=true/\∃ code st',Blt Qn g code st'/\f=sd code st')
theorem bltF.ex {g:T} (h:dd g=true):∃ f,bltF g f:=by
 cases hb:cM g with
 | false=>exact ⟨false,.inl ⟨hb,rfl⟩⟩
 | true=>
  have:=oo h
  obtain ⟨c,st',hB⟩:=Blt.ex (nH 26) hb ⟨iO h,by omega⟩
  exact ⟨_,.inr ⟨hb,c,st',hB,rfl⟩⟩
open Classical in
noncomputable def bltV (g:T):Bool:=if h:∃ f,bltF g f then h.choose else false
theorem Ai {g:T} (h:dd g=true):bltF g (bltV g):=by
 have he:=bltF.ex h
 rw [bltV,dif_pos he]
 exact he.choose_spec
def zk:List T->List PF->aC->Bool
 | g::gs,x::xs,st=>!jR g && ((bL g x.goal st).1 && zk gs xs (bL g x.goal st).2)
 | _,_,_=>true
noncomputable def nodeC (p:List C) (g:T) (c:Int) (ks:List PF):Bool:=if c<0 then decide (ks.length=0) && bltV g else match p[c.toNat]? with
 | none=>false
 | some q=>decide (ks.length=q.body.length) && ((bL q.head g st0).1 && zk q.body ks (bL q.head g st0).2)
mutual
noncomputable def chkF (p:List C):PF->Bool
 | .mk g c ks=>nodeC p g c ks && chkFL p ks
noncomputable def chkFL (p:List C):List PF->Bool
 | []=>true
 | x::xs=>chkF p x && chkFL p xs
end
noncomputable def interL (p:List C):List T->List PF->aC->Bool
 | g::gs,x::xs,st=>!jR g && ((bL g x.goal st).1 && (chkF p x && interL p gs xs (bL g x.goal st).2))
 | _,_,_=>true
theorem Hv (p:List C):∀ (gs:List T) (xs:List PF) (st:aC),gs.length=xs.length->interL p gs xs st=(zk gs xs st && chkFL p xs)
 | [],[],_,_=>rfl
 | g::gs,x::xs,st,h=>by
  rw [interL,zk,chkFL,Hv p gs xs _ (by simpa using h)]
  cases jR g <;> cases (bL g x.goal st).1 <;> cases chkF p x <;> simp
 | [],_::_,_,h=>by simp at h
 | _::_,[],_,h=>by simp at h
theorem EF:∀ {ts:List PF} {d:Int},qK ts d=true->∀ x∈ts,pf x d=true
 | t::ts,d,h,x,hx=>by
  rw [qK,Bool.and_eq_true] at h
  rcases List.mem_cons.1 hx with rfl|hx
  ·exact h.1
  ·exact EF h.2 x hx
theorem mR {g:T} {c:Int} {ks:List PF} {d:Int} (h:pf (.mk g c ks) d=true):ef g=true/\(-1<=c/\c<=19)/\∀ x∈ks,pf x (d - 1)=true:=by
 rw [pf,Bool.and_eq_true,Bool.and_eq_true,tZ,Bool.and_eq_true,Bool.and_eq_true,Bool.and_eq_true,decide_eq_true_eq,decide_eq_true_eq,decide_eq_true_eq,decide_eq_true_eq] at h
 obtain ⟨_,⟨h1,⟨h2,h3⟩,_⟩,h4⟩:=h
 exact ⟨h1,⟨h2,h3⟩,EF h4⟩
theorem pJ {p:List C} (h:iA p=true) {c:C} (hc:c∈p):ce c=true:=by
 rw [iA,Bool.and_eq_true,List.all_eq_true] at h
 exact h.2 c hc
theorem J9 {a b c d e f:Value}:∀ (j:Nat) (v:Value),([a,b,c,d]:List Value)[j]?=some v->([a,b,c,d,e,f]:List Value)[j]?=some v
 | 0,_,h|1,_,h|2,_,h|3,_,h=>h
 | j+4,_,h=>by simp at h
section
attribute [local irreducible] Run CondV aB aS
theorem xm {g:T} (hv:dd g=true) (hb:cM g=true) {S:ae} {cs:List Value} (h:RdT S cs g):Pure Tryz.prog FQ [.agg cs.toArray] S (.bool (bltV g)):=by
 intro w hI
 have hl:=h.length
 have hw:=oo hv
 obtain ⟨code,st',hB,hf⟩:∃ code st',Blt Qn g code st'/\bltV g=sd code st':=by
  rcases Ai hv with ⟨h1,_⟩|⟨_,h1⟩
  ·rw [hb] at h1; cases h1
  ·exact h1
 refine rY.2 ?_
 dsimp only[rY,aO]
 refine be hI fun b1 w' hI=>?_
 refine aq hI 0 ac rfl (by simpa [Value.cells] using hl) ?_
 refine Run.call0E wZ wY hI (rq hv hb ⟨iO hv,by omega⟩ (EE hv) hB h) fun v' I' S1 w'=>?_
 rintro ⟨a,n,cap,c,rfl,hfl⟩ hE hI
 refine aj (v:=.slice a n cap) rfl ?_
 refine aj (v:=.int .i64 c) rfl ?_
 refine aY ?_
 rw [hf,<- hfl]
 cases hc:decide (c=0)
 ·refine rpG ?_
  exact gg hI hE.1 rfl
 refine rpG ?_
 refine dX EH ?_
 refine aY ?_
 refine rpG ?_
 refine gg hI hE.1 ?_
 have el:decide ((n:Int)=0)=decide (n=0):=by rw [decide_eq_decide]; omega
 rw [el]
 rfl
set_option maxHeartbeats 1000000 in
theorem CT {p:List C} (hpv:iA p=true) {g:T} {c:Int} {ks:List PF} {d:Int} (hsh:pf (.mk g c ks) d=true) {S:ae} {u:Value} {cs:List Value} (hp:RdSl S 5 (RdC S) u p) (h:RdF S cs (.mk g c ks)) :
  Pure Tryz.prog Hz [u,.agg cs.toArray] S (.bool (nodeC p g c ks)):=by
 intro w hI
 obtain ⟨kv,kf,rfl,hg,hci,hks⟩:=RdF.iff.1 h
 obtain ⟨hgb,hcr,hkids⟩:=mR hsh
 have hgv:=ek hgb
 simp only [PF.goal,PF.kids,PF.clause] at hg hci hks ⊢
 have hkl:=hks.le
 simp only [maxLen] at hkl
 rw [nodeC]
 refine wj.2 ?_
 dsimp only[wj,aX]
 refine be hI fun b3 w' hI=>?_
 have hI:Inv w [] [.blk b3 (.cells #[.int .i64 g.kind,.int .i64 g.n,.string g.name,kv,.int .i64 c,kf] ah)] S w':=hI
 refine ad (u:=.int .i64 c) hI 0 rfl cN aw rfl ?_
 refine bA ?_
 refine aI (fun hneg=>?_) (fun hneg=>?_)
 ·rw [if_pos hneg]
  refine ad hI 0 rfl bk bp rfl ?_
  refine aD hks bS ?_
  refine aY ?_
  have el:decide ((ks.length:Int)=0)=decide (ks.length=0):=by rw [decide_eq_decide]; omega
  rw [el]
  cases hk0:decide (ks.length=0)
  ·refine rpG ?_
   exact done hI rfl
  refine rpG ?_
  obtain ⟨gk,gkv,hge,_,_,hgs,hgk⟩:=RdT.iff.1 hg
  refine ai cP ?_
  refine ai aM ?_
  refine aA (v:=.string g.name) hI 0 aJ rfl rfl ?_
  refine ai cP ?_
  refine ai al ?_
  refine aA (v:=kv) hI 0 ag rfl rfl ?_
  have hkv:RdSl S 4 (RdT S) kv g.kids:=by
   obtain ⟨kv2,e,_,_,_,h2⟩:=RdT.iff.1 hg
   simp only [List.cons.injEq,and_true,true_and] at e
   rw [e]; exact h2
  refine aD hkv af ?_
  refine Run.callPure gj f1 hI (fh _ _ S) fun w' hI=>?_
  have hbt:cM g=dD g.name g.kids.length:=by rw [cM,Nb hgb,Bool.true_and]
  rw [<- hbt]
  cases hb:cM g
  ·refine rpG ?_
   refine done hI ?_
   rcases Ai hgv with ⟨_,h2⟩|⟨h2,_⟩
   ·rw [h2]; rfl
   ·rw [hb] at h2; cases h2
  refine rpG ?_
  refine ai cP ?_
  refine b0 hI 0 [_,_,_,_] ac rfl rfl sH ?_
  refine Run.callPure Ds CU hI (xm hgv hb hg) fun w' hI=>?_
  refine rpG ?_
  exact done hI rfl
 rw [if_neg hneg]
 by_cases hge:(p.length:Int)<=c
 ·have hpn:p[c.toNat]?=none:=List.getElem?_eq_none (by omega)
  rw [hpn]
  refine ⟨fun D jK mh kw lW jJ j1 jG na ij gX nL jL kz pz mt oE jM jd w_=>Fx D 0 [jd=.pointer (some ⟨b3,4,none⟩),jM=.int .i64 c,oE=u,mt=.int .i64 p.length,pz=.bool true,kz=.bool true,jL=undef,nL=undef,gX=undef,ij=undef,na=undef,jG=undef,j1=undef,jJ=undef,lW=undef,kw=undef,mh=undef,jK=.bool true]/\Inv w [] [.blk b3 (.cells #[.int .i64 g.kind,.int .i64 g.n,.string g.name,kv,.int .i64 c,kf] ah)] S w_,⟨Fx.nil _ _,hI.draw⟩,⟨?_,?_,?_,?_,?_,?_,?_,?_,?_,?_,?_,?_,?_,?_,?_,?_,?_,?_,trivial⟩,?_⟩
  all_goals (intro D bo; intros; rename_i jK mh kw lW jJ j1 jG na ij gX nL jL kz pz mt oE jM jd w_ hA_; have hF_:=hA_.1; obtain ⟨⟨bU,bV,bH,bR,bZ,bI,bB,ct,cF,cK,bG,bX,cI,dq,cC,dA,dH,dV,_⟩,hI⟩:=hA_)
  ·refine ai cN ?_
   exact ⟨hF_.set 0 rfl,hI⟩
  ·obtain rfl:=bU ‹_›
   refine aA hI 0 aw rfl rfl ?_
   exact ⟨hF_.set 1 rfl,hI⟩
  ·exact ⟨hF_.set 2 rfl,hI⟩
  ·obtain rfl:=bH ‹_›
   refine aD hp bz ?_
   exact ⟨hF_.set 3 rfl,hI⟩
  ·obtain rfl:=bV ‹_›
   obtain rfl:=bR ‹_›
   refine fY ?_
   rw [decide_eq_true hge]
   exact ⟨hF_.set 4 rfl,hI⟩
  ·obtain rfl:=bZ ‹_›
   exact ⟨hF_.set 5 rfl,hI⟩
  ·obtain rfl:=bI ‹_›
   refine rpG ?_
   exact ⟨hF_.set 6 rfl,hI⟩
  ·obtain rfl:=bB ‹_›
   obtain rfl:=bI ‹_›
   refine rpG ?_
   exact ⟨hF_.set 7 rfl,hI⟩
  ·obtain rfl:=ct ‹_›
   obtain rfl:=bI ‹_›
   refine rpG ?_
   exact ⟨hF_.set 8 rfl,hI⟩
  ·obtain rfl:=bI ‹_›
   refine rpG ?_
   exact ⟨hF_.set 9 rfl,hI⟩
  ·obtain rfl:=bI ‹_›
   refine rpG ?_
   exact ⟨hF_.set 10 rfl,hI⟩
  ·obtain rfl:=bG ‹_›
   obtain rfl:=bI ‹_›
   refine rpG ?_
   exact ⟨hF_.set 11 rfl,hI⟩
  ·obtain rfl:=cK ‹_›
   obtain rfl:=bX ‹_›
   obtain rfl:=bI ‹_›
   refine rpG ?_
   exact ⟨hF_.set 12 rfl,hI⟩
  ·obtain rfl:=cI ‹_›
   obtain rfl:=bI ‹_›
   refine rpG ?_
   exact ⟨hF_.set 13 rfl,hI⟩
  ·obtain rfl:=dq ‹_›
   obtain rfl:=bI ‹_›
   refine rpG ?_
   exact ⟨hF_.set 14 rfl,hI⟩
  ·obtain rfl:=cC ‹_›
   obtain rfl:=bI ‹_›
   refine rpG ?_
   exact ⟨hF_.set 15 rfl,hI⟩
  ·obtain rfl:=cF ‹_›
   obtain rfl:=dA ‹_›
   obtain rfl:=bI ‹_›
   refine rpG ?_
   exact ⟨hF_.set 16 rfl,hI⟩
  ·obtain rfl:=bI ‹_›
   obtain rfl:=dH ‹_›
   refine rpG ?_
   exact ⟨hF_.set 17 rfl,hI⟩
  obtain ⟨rfl,rfl,rfl,rfl,rfl,rfl,rfl,rfl,rfl,rfl,rfl,rfl,rfl,rfl,rfl,rfl,rfl,rfl,_⟩:=hF_.all
  clear hF_ bU bV bH bR bZ bI bB ct cF cK bG bX cI dq cC dA dH dV
  refine az (fun _=>done hI rfl) (fun hb=>by cases hb)
 obtain ⟨j,hcj⟩:∃ j:Nat,c=(j:Int):=⟨c.toNat,by omega⟩
 have hjl:j<p.length:=by omega
 subst hcj
 have hpe:p[(j:Int).toNat]?=some p[j]:=by rw [Int.toNat_natCast,List.getElem?_eq_getElem hjl]
 rw [hpe]
 have hqv:=pJ hpv (List.getElem_mem hjl)
 obtain ⟨q,hq⟩:∃ q,q=p[j]:=⟨_,rfl⟩
 obtain ⟨pb,po,pcap,pc,pE,pfz,rfl,hpS,hpR⟩:=hp.at_ hjl
 rw [<- hq] at hpR hqv ⊢
 obtain ⟨kh,kb,hcc,hqh,hqb⟩:=hpR.cells
 have hcl5:=hpR.length
 rw [hcc] at hpR
 have hlq:decide ((ks.length:Int)=(q.body.length:Int))=decide (ks.length=q.body.length):=by rw [decide_eq_decide]; omega
 have hqo:=rf hqv
 refine ⟨fun D jK mh kw lW jJ j1 jG na ij gX nL jL kz pz mt oE jM jd w_=>Fx D 0 [jd=.pointer (some ⟨b3,4,none⟩),jM=.int .i64 (j:Int),oE=.slice (some ⟨pb,po,none⟩) p.length pcap,mt=.int .i64 p.length,pz=.bool false,kz=.bool false,jL=.pointer (some ⟨b3,5,none⟩),nL=kf,gX=.int .i64 ks.length,ij=.slice (some ⟨pb,po,none⟩) p.length pcap,na=.pointer (some ⟨b3,4,none⟩),jG=.int .i64 (j:Int),j1=.pointer (some ⟨pb,po+j * 5,none⟩),jJ=.pointer (some ⟨pb,po+j * 5+4,none⟩),lW=kb,kw=.int .i64 q.body.length,mh=.bool (!decide (ks.length=q.body.length)),jK=.bool (!decide (ks.length=q.body.length))]/\Inv w [] [.blk b3 (.cells #[.int .i64 g.kind,.int .i64 g.n,.string g.name,kv,.int .i64 (j:Int),kf] ah)] S w_,⟨Fx.nil _ _,hI.draw⟩,⟨?_,?_,?_,?_,?_,?_,?_,?_,?_,?_,?_,?_,?_,?_,?_,?_,?_,?_,trivial⟩,?_⟩
 all_goals (intro D bo; intros; rename_i jK mh kw lW jJ j1 jG na ij gX nL jL kz pz mt oE jM jd w_ hA_; have hF_:=hA_.1; obtain ⟨⟨bU,bV,bH,bR,bZ,bI,bB,ct,cF,cK,bG,bX,cI,dq,cC,dA,dH,dV,_⟩,hI⟩:=hA_)
 ·refine ai cN ?_
  exact ⟨hF_.set 0 rfl,hI⟩
 ·obtain rfl:=bU ‹_›
  refine aA hI 0 aw rfl rfl ?_
  exact ⟨hF_.set 1 rfl,hI⟩
 ·exact ⟨hF_.set 2 rfl,hI⟩
 ·obtain rfl:=bH ‹_›
  refine aD hp bz ?_
  exact ⟨hF_.set 3 rfl,hI⟩
 ·obtain rfl:=bV ‹_›
  obtain rfl:=bR ‹_›
  refine fY ?_
  rw [decide_eq_false hge]
  exact ⟨hF_.set 4 rfl,hI⟩
 ·obtain rfl:=bZ ‹_›
  exact ⟨hF_.set 5 rfl,hI⟩
 ·obtain rfl:=bI ‹_›
  refine rpG ?_
  refine ai bk ?_
  exact ⟨hF_.set 6 rfl,hI⟩
 ·obtain rfl:=bB ‹_›
  obtain rfl:=bI ‹_›
  refine rpG ?_
  refine aA hI 0 bp rfl rfl ?_
  exact ⟨hF_.set 7 (by first|assumption|trivial),hI⟩
 ·have zQ:=ct ‹_›
  obtain rfl:=bI ‹_›
  refine rpG ?_
  refine aD (xs:=ks) (by rw [zQ]; exact hks) bS ?_
  exact ⟨hF_.set 8 rfl,hI⟩
 ·obtain rfl:=bI ‹_›
  refine rpG ?_
  exact ⟨hF_.set 9 rfl,hI⟩
 ·obtain rfl:=bI ‹_›
  refine rpG ?_
  refine ai cN ?_
  exact ⟨hF_.set 10 rfl,hI⟩
 ·obtain rfl:=bG ‹_›
  obtain rfl:=bI ‹_›
  refine rpG ?_
  refine aA hI 0 aw rfl rfl ?_
  exact ⟨hF_.set 11 rfl,hI⟩
 ·obtain rfl:=cK ‹_›
  obtain rfl:=bX ‹_›
  obtain rfl:=bI ‹_›
  refine rpG ?_
  refine au bz hjl ?_
  exact ⟨hF_.set 12 rfl,hI⟩
 ·obtain rfl:=cI ‹_›
  obtain rfl:=bI ‹_›
  refine rpG ?_
  refine ai bi ?_
  exact ⟨hF_.set 13 rfl,hI⟩
 ·obtain rfl:=dq ‹_›
  obtain rfl:=bI ‹_›
  refine rpG ?_
  refine cz ag (by rw [hI.cellS hpS]; exact ar hcc 4 _ rfl) ?_
  exact ⟨hF_.set 14 (by first|assumption|trivial),hI⟩
 ·have B0:=cC ‹_›
  obtain rfl:=bI ‹_›
  refine rpG ?_
  refine aD (xs:=q.body) (by rw [B0]; exact hqb) af ?_
  exact ⟨hF_.set 15 rfl,hI⟩
 ·obtain rfl:=cF ‹_›
  obtain rfl:=dA ‹_›
  obtain rfl:=bI ‹_›
  refine rpG ?_
  refine cE ?_
  rw [hlq]
  exact ⟨hF_.set 16 rfl,hI⟩
 ·obtain rfl:=bI ‹_›
  obtain rfl:=dH ‹_›
  refine rpG ?_
  exact ⟨hF_.set 17 rfl,hI⟩
 obtain ⟨rfl,rfl,rfl,rfl,rfl,rfl,rfl,zQ,rfl,rfl,rfl,rfl,rfl,rfl,B0,rfl,rfl,rfl,_⟩:=hF_.all
 clear hF_ bU bV bH bR bZ bI bB ct cF cK bG bX cI dq cC dA dH dV
 refine az (fun hb=>done hI ?_) (fun hb=>?_)
 ·have hb:decide (ks.length=q.body.length)=false:=by simpa using hb
  simp only [hb]
  rfl
 have hlen:ks.length=q.body.length:=by simpa using hb
 simp only [decide_eq_true hlen,Bool.true_and]
 refine ad (u:=.int .i64 (j:Int)) hI 0 rfl cN aw rfl ?_
 refine au bz hjl ?_
 refine bw (cs:=[.int .i64 q.head.kind,.int .i64 q.head.n,.string q.head.name,kh,kb]) bl rfl (fun i v hi=>by rw [hI.cellS hpS]; exact ar hcc i v hi) ?_
 refine aG hI dB fun b5 w' hI=>?_
 refine ao hI 1 rfl bl rfl rfl (by simpa using hpR.one) fun w' hI=>?_
 refine nU (n:=26) hI bm (by omega) (by omega) (by omega) fun tb w' hI=>?_
 have hkc0:=PS _ rfl S
 obtain ⟨kc,hkce⟩:∃ kc,kc=(Array.range 104).map ((#[.int .i64 0,.int .i64 0,.string ⟨#[]⟩,.slice none 0 0]:Array Value)[· % (#[.int .i64 0,.int .i64 0,.string ⟨#[]⟩,.slice none 0 0]:Array Value).size]!):=⟨_,rfl⟩
 rw [<- hkce] at hkc0
 have hI:Inv w [] [.blk b3 (.cells #[.int .i64 g.kind,.int .i64 g.n,.string g.name,kv,.int .i64 (j:Int),kf] ah),.blk b5 (.cells #[.int .i64 q.head.kind,.int .i64 q.head.n,.string q.head.name,kh,kb] av),.blk tb (.cells kc ab)] S w':=by rw [hkce]; exact hI
 refine ai co ?_
 refine b0 hI 1 [.int .i64 q.head.kind,.int .i64 q.head.n,.string q.head.name,kh] ac rfl rfl H2 ?_
 refine ai cP ?_
 refine b0 hI 0 [.int .i64 g.kind,.int .i64 g.n,.string g.name,kv] ac rfl rfl sH ?_
 have hgk:=(iy hgv).2
 have hcall:=sQ 26 q.head g S _ _ tb kc st0 hqh hg hqo.1.1 hgk Fh hkc0
 have hsn:=jx q.head g st0 Fh hgk
 generalize bL q.head g st0=r0 at hcall hsn ⊢
 refine Run.call (A:=[_,_]) ol oc hI hcall fun v' I' S1 w'=>?_
 rintro ⟨rfl,rfl,kc,rfl,hkc⟩ _ hI
 refine bM ?_
 cases hr0:r0.1
 ·refine az (fun _=>done hI rfl) (fun hb=>by cases hb)
 refine az (fun hb=>by cases hb) (fun _=>?_)
 simp only [Bool.true_and]
 refine ⟨fun i w'=>∃ (k:Nat) (st':aC) (kc:Array Value),k<=q.body.length/\i=.int .i64 k/\zk (q.body.drop k) (ks.drop k) st'=zk q.body ks r0.2/\xy st'/\KnownC S1 kc st'/\Inv w [] [.blk b3 (.cells #[.int .i64 g.kind,.int .i64 g.n,.string g.name,kv,.int .i64 (j:Int),kf] ah),.blk b5 (.cells #[.int .i64 q.head.kind,.int .i64 q.head.n,.string q.head.name,kh,kb] av),.blk tb (.cells kc ab)] S1 w',
  fun i _=>q.body.length - (intOf i).toNat,⟨0,r0.2,kc,Nat.zero_le _,rfl,rfl,hsn,hkc,hI⟩,?_⟩
 intro i _ _ _ t89 t88 t87 t86 t85 t84 t83 t82 t81 t80 t79 t78 t77 t76 t75 t74 t73 t72 t71 t70 t69 t68 _ _ _ _ _ w'
 rintro ⟨k,st',kc,hk,rfl,hrel,hst,hkc,hI⟩
 have hqbl:=hqb.le
 simp only [maxLen] at hqbl
 refine ad hI 1 rfl bi ag rfl ?_
 refine aD hqb af ?_
 refine bA ?_
 refine aI (fun hki=>?_) (fun hki=>?_)
 ·have hk1:k<q.body.length:=by omega
  have hk2:k<ks.length:=by omega
  rw [List.drop_eq_getElem_cons hk1,List.drop_eq_getElem_cons hk2,zk] at hrel
  obtain ⟨qb,qo,qcap,qc,qE,qfz,rfl,hqS,hqR⟩:=hqb.at_ hk1
  obtain ⟨fb,fo,fcap,fc,fE,ffz,rfl,hfS,hfR⟩:=hks.at_ hk2
  obtain ⟨fv,ff,hfe,hfg,_,_⟩:=RdF.iff.1 hfR
  obtain ⟨x,hx⟩:∃ x,x=ks[k]:=⟨_,rfl⟩
  obtain ⟨y,hy⟩:∃ y,y=q.body[k]:=⟨_,rfl⟩
  have hym:y∈q.body:=by rw [hy]; exact List.getElem_mem hk1
  have hxg:ef x.goal=true:=by
   have h1:=hkids ks[k] (List.getElem_mem hk2)
   rw [<- hx] at h1
   obtain ⟨xg,xc,xk⟩:=x
   exact (mR h1).1
  rw [<- hx] at hfe hfg hrel
  rw [<- hy] at hqR hrel
  cases hcut:jR y
  ·have hI:=hI
   refine ⟨fun D tJ sk tL tz tT tG vH yY xb yc yk vh qu yB As Ad Bt AH Bw Ag Aq Eh w_=>Fx D 0 [Eh=.pointer (some ⟨b5,4,none⟩),Aq=.slice (some ⟨qb,qo,none⟩) q.body.length qcap,Ag=.int .i64 k,Bw=.pointer (some ⟨qb,qo+k * 4,none⟩),AH=.agg (aH qc (qo+k * 4) 4).toArray,Bt=.bool false,Ad=.bool false,As=.pointer (some ⟨b5,4,none⟩),yB=.slice (some ⟨qb,qo,none⟩) q.body.length qcap,qu=.int .i64 k,vh=.pointer (some ⟨qb,qo+k * 4,none⟩),yk=.agg (aH qc (qo+k * 4) 4).toArray,yc=.pointer (some ⟨b3,5,none⟩),xb=.slice (some ⟨fb,fo,none⟩) ks.length fcap,yY=.int .i64 k,vH=.pointer (some ⟨fb,fo+k * 6,none⟩),tG=.pointer (some ⟨fb,fo+k * 6,none⟩),tT=.agg #[.int .i64 x.goal.kind,.int .i64 x.goal.n,.string x.goal.name,fv],tz=kv0 tb,tL=.bool (bL y x.goal st').1,sk=.bool (!(bL y x.goal st').1),tJ=.bool (!(bL y x.goal st').1)]/\∃ kcx,(D 19=false->kcx=kc)/\(D 19=true->KnownC S1 kcx (bL y x.goal st').2)/\Inv w [] [.blk b3 (.cells #[.int .i64 g.kind,.int .i64 g.n,.string g.name,kv,.int .i64 (j:Int),.slice (some ⟨fb,fo,none⟩) ks.length fcap] ah),.blk b5 (.cells #[.int .i64 q.head.kind,.int .i64 q.head.n,.string q.head.name,kh,.slice (some ⟨qb,qo,none⟩) q.body.length qcap] av),.blk tb (.cells kcx ab)] S1 w_,⟨Fx.nil _ _,⟨kc,fun _=>rfl,aU,hI.draw⟩⟩,⟨?_,?_,?_,?_,?_,?_,?_,?_,?_,?_,?_,?_,?_,?_,?_,?_,?_,?_,?_,?_,?_,?_,trivial⟩,?_⟩
   all_goals (intro D bo; intros; rename_i tJ sk tL tz tT tG vH yY xb yc yk vh qu yB As Ad Bt AH Bw Ag Aq Eh w_ hA_; have hF_:=hA_.1; obtain ⟨⟨bU,bV,bH,bR,bZ,bI,bB,ct,cF,cK,bG,bX,cI,dq,cC,dA,dH,dV,fu,ew,fP,iq,_⟩,⟨kcx,k0,k1,hI⟩⟩:=hA_)
   ·refine ai bi ?_
    exact ⟨hF_.set 0 rfl,⟨kcx,k0,k1,hI⟩⟩
   ·obtain rfl:=bU ‹_›
    refine aA hI 1 ag rfl rfl ?_
    exact ⟨hF_.set 1 rfl,⟨kcx,k0,k1,hI⟩⟩
   ·exact ⟨hF_.set 2 rfl,⟨kcx,k0,k1,hI⟩⟩
   ·obtain rfl:=bV ‹_›
    obtain rfl:=bH ‹_›
    refine au af hk1 ?_
    exact ⟨hF_.set 3 rfl,⟨kcx,k0,k1,hI⟩⟩
   ·obtain rfl:=bR ‹_›
    refine bw ac hqR.length (fun i v hi=>by rw [hI.cellS hqS]; exact ar rfl i v hi) ?_
    exact ⟨hF_.set 4 rfl,⟨kcx,k0,k1,hI⟩⟩
   ·obtain rfl:=bZ ‹_›
    refine Run.callPure oi ox hI (lU hqR) fun w_ hI=>?_
    rw [hcut]
    exact ⟨hF_.set 5 rfl,⟨kcx,k0,k1,hI⟩⟩
   ·obtain rfl:=bI ‹_›
    exact ⟨hF_.set 6 rfl,⟨kcx,k0,k1,hI⟩⟩
   ·obtain rfl:=bB ‹_›
    refine rpG ?_
    refine ai bi ?_
    exact ⟨hF_.set 7 rfl,⟨kcx,k0,k1,hI⟩⟩
   ·obtain rfl:=ct ‹_›
    obtain rfl:=bB ‹_›
    refine rpG ?_
    refine aA hI 1 ag rfl rfl ?_
    exact ⟨hF_.set 8 rfl,⟨kcx,k0,k1,hI⟩⟩
   ·obtain rfl:=bB ‹_›
    refine rpG ?_
    exact ⟨hF_.set 9 rfl,⟨kcx,k0,k1,hI⟩⟩
   ·obtain rfl:=cF ‹_›
    obtain rfl:=cK ‹_›
    obtain rfl:=bB ‹_›
    refine rpG ?_
    refine au af hk1 ?_
    exact ⟨hF_.set 10 rfl,⟨kcx,k0,k1,hI⟩⟩
   ·obtain rfl:=bG ‹_›
    obtain rfl:=bB ‹_›
    refine rpG ?_
    refine bw ac hqR.length (fun i v hi=>by rw [hI.cellS hqS]; exact ar rfl i v hi) ?_
    exact ⟨hF_.set 11 rfl,⟨kcx,k0,k1,hI⟩⟩
   ·obtain rfl:=bB ‹_›
    refine rpG ?_
    refine ai bk ?_
    exact ⟨hF_.set 12 rfl,⟨kcx,k0,k1,hI⟩⟩
   ·obtain rfl:=cI ‹_›
    obtain rfl:=bB ‹_›
    refine rpG ?_
    refine aA hI 0 bp rfl rfl ?_
    exact ⟨hF_.set 13 rfl,⟨kcx,k0,k1,hI⟩⟩
   ·obtain rfl:=bB ‹_›
    refine rpG ?_
    exact ⟨hF_.set 14 rfl,⟨kcx,k0,k1,hI⟩⟩
   ·obtain rfl:=dq ‹_›
    obtain rfl:=cC ‹_›
    obtain rfl:=bB ‹_›
    refine rpG ?_
    refine au bS hk2 ?_
    exact ⟨hF_.set 15 rfl,⟨kcx,k0,k1,hI⟩⟩
   ·obtain rfl:=dA ‹_›
    obtain rfl:=bB ‹_›
    refine rpG ?_
    refine ai cP ?_
    exact ⟨hF_.set 16 rfl,⟨kcx,k0,k1,hI⟩⟩
   ·obtain rfl:=dH ‹_›
    obtain rfl:=bB ‹_›
    refine rpG ?_
    refine bw (cs:=[.int .i64 x.goal.kind,.int .i64 x.goal.n,.string x.goal.name,fv]) ac rfl (fun i v hi=>by rw [hI.cellS hfS]; exact ar hfe i v (J9 i v hi)) ?_
    exact ⟨hF_.set 17 rfl,⟨kcx,k0,k1,hI⟩⟩
   ·obtain rfl:=bB ‹_›
    refine rpG ?_
    exact ⟨hF_.set 18 rfl,⟨kcx,k0,k1,hI⟩⟩
   ·obtain rfl:=bX ‹_›
    obtain rfl:=dV ‹_›
    obtain rfl:=fu ‹_›
    obtain rfl:=bB ‹_›
    refine rpG ?_
    have e0:=k0 bo
    rw [e0] at hI
    refine Run.callE (A:=[_,_]) ol oc hI (sQ 26 y x.goal S1 _ _ tb kc st' hqR hfg (nD hqo.2.1 _ hym) (iy (ek hxg)).2 hst hkc) fun v' I' S2 w_=>?_
    rintro ⟨eS,rfl,kcx,rfl,hkx⟩ _ hI
    rw [eS] at hI
    have k0:=fun (h:aF D 19 19=false)=>(Bool.noConfusion h:kcx=kc)
    have k1:=fun (_:aF D 19 19=true)=>hkx
    exact ⟨hF_.set 19 rfl,⟨kcx,k0,k1,hI⟩⟩
   ·obtain rfl:=ew ‹_›
    obtain rfl:=bB ‹_›
    refine rpG ?_
    refine bM ?_
    exact ⟨hF_.set 20 rfl,⟨kcx,k0,k1,hI⟩⟩
   ·obtain rfl:=bB ‹_›
    obtain rfl:=fP ‹_›
    refine rpG ?_
    exact ⟨hF_.set 21 rfl,⟨kcx,k0,k1,hI⟩⟩
   obtain ⟨rfl,rfl,rfl,rfl,rfl,rfl,rfl,rfl,rfl,rfl,rfl,rfl,rfl,rfl,rfl,rfl,rfl,rfl,rfl,rfl,rfl,rfl,_⟩:=hF_.all
   have Q4:D 19=true:=by assumption
   clear hF_ bU bV bH bR bZ bI bB ct cF cK bG bX cI dq cC dA dH dV fu ew fP iq
   have hkx:=k1 Q4
   have hst2:=jx y x.goal st' hst (iy (ek hxg)).2
   rw [hcut] at hrel
   cases hm:(bL y x.goal st').1
   ·refine az (fun _=>done hI ?_) (fun hb=>by cases hb)
    rw [<- hrel,hm]; rfl
   refine az (fun hb=>by cases hb) (fun _=>?_)
   refine bn (by omega) ?_
   rw [hm,Bool.not_false,Bool.true_and,Bool.true_and] at hrel
   exact ⟨⟨k+1,_,kcx,hk1,rfl,hrel,hst2,hkx,hI⟩,by simp [intOf]; omega⟩
  ·have hI:=hI
   refine ⟨fun D tJ sk tL tz tT tG vH yY xb yc yk vh qu yB As Ad Bt AH Bw Ag Aq Eh w_=>Fx D 0 [Eh=.pointer (some ⟨b5,4,none⟩),Aq=.slice (some ⟨qb,qo,none⟩) q.body.length qcap,Ag=.int .i64 k,Bw=.pointer (some ⟨qb,qo+k * 4,none⟩),AH=.agg (aH qc (qo+k * 4) 4).toArray,Bt=.bool true,Ad=.bool true,As=undef,yB=undef,qu=undef,vh=undef,yk=undef,yc=undef,xb=undef,yY=undef,vH=undef,tG=undef,tT=undef,tz=undef,tL=undef,sk=undef,tJ=.bool true]/\Inv w [] [.blk b3 (.cells #[.int .i64 g.kind,.int .i64 g.n,.string g.name,kv,.int .i64 (j:Int),.slice (some ⟨fb,fo,none⟩) ks.length fcap] ah),.blk b5 (.cells #[.int .i64 q.head.kind,.int .i64 q.head.n,.string q.head.name,kh,.slice (some ⟨qb,qo,none⟩) q.body.length qcap] av),.blk tb (.cells kc ab)] S1 w_,⟨Fx.nil _ _,hI.draw⟩,⟨?_,?_,?_,?_,?_,?_,?_,?_,?_,?_,?_,?_,?_,?_,?_,?_,?_,?_,?_,?_,?_,?_,trivial⟩,?_⟩
   all_goals (intro D bo; intros; rename_i tJ sk tL tz tT tG vH yY xb yc yk vh qu yB As Ad Bt AH Bw Ag Aq Eh w_ hA_; have hF_:=hA_.1; obtain ⟨⟨bU,bV,bH,bR,bZ,bI,bB,ct,cF,cK,bG,bX,cI,dq,cC,dA,dH,dV,fu,ew,fP,iq,_⟩,hI⟩:=hA_)
   ·refine ai bi ?_
    exact ⟨hF_.set 0 rfl,hI⟩
   ·obtain rfl:=bU ‹_›
    refine aA hI 1 ag rfl rfl ?_
    exact ⟨hF_.set 1 rfl,hI⟩
   ·exact ⟨hF_.set 2 rfl,hI⟩
   ·obtain rfl:=bV ‹_›
    obtain rfl:=bH ‹_›
    refine au af hk1 ?_
    exact ⟨hF_.set 3 rfl,hI⟩
   ·obtain rfl:=bR ‹_›
    refine bw ac hqR.length (fun i v hi=>by rw [hI.cellS hqS]; exact ar rfl i v hi) ?_
    exact ⟨hF_.set 4 rfl,hI⟩
   ·obtain rfl:=bZ ‹_›
    refine Run.callPure oi ox hI (lU hqR) fun w_ hI=>?_
    rw [hcut]
    exact ⟨hF_.set 5 rfl,hI⟩
   ·obtain rfl:=bI ‹_›
    exact ⟨hF_.set 6 rfl,hI⟩
   ·obtain rfl:=bB ‹_›
    refine rpG ?_
    exact ⟨hF_.set 7 rfl,hI⟩
   ·obtain rfl:=ct ‹_›
    obtain rfl:=bB ‹_›
    refine rpG ?_
    exact ⟨hF_.set 8 rfl,hI⟩
   ·obtain rfl:=bB ‹_›
    refine rpG ?_
    exact ⟨hF_.set 9 rfl,hI⟩
   ·obtain rfl:=cF ‹_›
    obtain rfl:=cK ‹_›
    obtain rfl:=bB ‹_›
    refine rpG ?_
    exact ⟨hF_.set 10 rfl,hI⟩
   ·obtain rfl:=bG ‹_›
    obtain rfl:=bB ‹_›
    refine rpG ?_
    exact ⟨hF_.set 11 rfl,hI⟩
   ·obtain rfl:=bB ‹_›
    refine rpG ?_
    exact ⟨hF_.set 12 rfl,hI⟩
   ·obtain rfl:=cI ‹_›
    obtain rfl:=bB ‹_›
    refine rpG ?_
    exact ⟨hF_.set 13 rfl,hI⟩
   ·obtain rfl:=bB ‹_›
    refine rpG ?_
    exact ⟨hF_.set 14 rfl,hI⟩
   ·obtain rfl:=dq ‹_›
    obtain rfl:=cC ‹_›
    obtain rfl:=bB ‹_›
    refine rpG ?_
    exact ⟨hF_.set 15 rfl,hI⟩
   ·obtain rfl:=dA ‹_›
    obtain rfl:=bB ‹_›
    refine rpG ?_
    exact ⟨hF_.set 16 rfl,hI⟩
   ·obtain rfl:=dH ‹_›
    obtain rfl:=bB ‹_›
    refine rpG ?_
    exact ⟨hF_.set 17 rfl,hI⟩
   ·obtain rfl:=bB ‹_›
    refine rpG ?_
    exact ⟨hF_.set 18 rfl,hI⟩
   ·obtain rfl:=bX ‹_›
    obtain rfl:=dV ‹_›
    obtain rfl:=fu ‹_›
    obtain rfl:=bB ‹_›
    refine rpG ?_
    exact ⟨hF_.set 19 rfl,hI⟩
   ·obtain rfl:=ew ‹_›
    obtain rfl:=bB ‹_›
    refine rpG ?_
    exact ⟨hF_.set 20 rfl,hI⟩
   ·obtain rfl:=bB ‹_›
    obtain rfl:=fP ‹_›
    refine rpG ?_
    exact ⟨hF_.set 21 rfl,hI⟩
   obtain ⟨rfl,rfl,rfl,rfl,rfl,rfl,rfl,rfl,rfl,rfl,rfl,rfl,rfl,rfl,rfl,rfl,rfl,rfl,rfl,rfl,rfl,rfl,_⟩:=hF_.all
   clear hF_ bU bV bH bR bZ bI bB ct cF cK bG bX cI dq cC dA dH dV fu ew fP iq
   refine az (fun _=>done hI ?_) (fun hb=>by cases hb)
   rw [<- hrel,hcut]; rfl
 ·have:k=q.body.length:=by omega
  subst this
  refine done hI ?_
  rw [<- hrel,List.drop_length]
  generalize ks.drop q.body.length=zs
  cases zs <;> rfl
theorem AR {p:List C} (hpv:iA p=true):∀ (x:PF) (d:Int) (S:ae) (u:Value) (cs:List Value),pf x d=true->RdSl S 5 (RdC S) u p->RdF S cs x->Pure Tryz.prog GA [u,.agg cs.toArray] S (.bool (chkF p x)):=by
 refine PF.ind fun g c ks ih d S u cs hsh hp h=>?_
 intro w hI
 have h0:=h
 obtain ⟨kv,kf,rfl,hg,hci,hks⟩:=RdF.iff.1 h
 obtain ⟨_,_,hkids⟩:=mR hsh
 simp only [PF.goal,PF.kids,PF.clause] at hg hci hks h0 ⊢
 have hkl:=hks.le
 simp only [maxLen] at hkl
 rw [chkF]
 refine r4.2 ?_
 dsimp only[r4,aX]
 refine be hI fun b3 w' hI=>?_
 have hI:Inv w [] [.blk b3 (.cells #[.int .i64 g.kind,.int .i64 g.n,.string g.name,kv,.int .i64 c,kf] ah)] S w':=hI
 refine aq hI 0 aT rfl rfl ?_
 refine Run.callPure EV Gk hI (CT hpv hsh hp h0) fun w' hI=>?_
 refine bM ?_
 cases hn:nodeC p g c ks
 ·refine az (fun _=>done hI rfl) (fun hb=>by cases hb)
 refine az (fun hb=>by cases hb) (fun _=>?_)
 rw [Bool.true_and]
 refine ⟨fun i w'=>∃ k:Nat,k<=ks.length/\i=.int .i64 k/\chkFL p (ks.drop k)=chkFL p ks/\Inv w [] [.blk b3 (.cells #[.int .i64 g.kind,.int .i64 g.n,.string g.name,kv,.int .i64 c,kf] ah)] S w',
  fun i _=>ks.length - (intOf i).toNat,⟨0,Nat.zero_le _,rfl,rfl,hI⟩,?_⟩
 intro i _ _ _ _ _ _ _ _ _ _ _ _ _ _ _ _ w'
 rintro ⟨k,hk,rfl,hrel,hI⟩
 refine ad hI 0 rfl bk bp rfl ?_
 refine aD hks bS ?_
 refine bA ?_
 refine aI (fun hki=>?_) (fun hki=>?_)
 ·have hk':k<ks.length:=by omega
  have hm:=List.getElem_mem hk'
  rw [List.drop_eq_getElem_cons hk',chkFL] at hrel
  refine ad hI 0 rfl bk bp rfl ?_
  refine ch hI hks bS aT hk' (fun _ _=>RdF.length) fun ds hds=>?_
  refine Run.callPure rT sz hI (ih _ hm (d - 1) S u ds (hkids _ hm) hp hds) fun w' hI=>?_
  refine bM ?_
  refine az (fun hne=>done hI ?_) (fun he=>?_)
  ·rw [Bool.not_eq_true'] at hne
   rw [<- hrel,hne]; rfl
  ·rw [Bool.not_eq_false'] at he
   rw [he,Bool.true_and] at hrel
   refine bn (by omega) ?_
   exact ⟨⟨k+1,hk',rfl,hrel,hI⟩,by simp [intOf]; omega⟩
 ·have:k=ks.length:=by omega
  subst this
  exact done hI (by rw [<- hrel,List.drop_length]; rfl)
end
end
end Go.Proofs.YtfcbhfjomgopbaaGreat
