/- the search of the spec in plain Lean: a step that takes a clause (l6Try). -/
import Derived.Test.YtcpgagfdeflbkaaGreatDoorZMv19
import Derived.Test.YtcpgagfdeflbkaaGreatDoorZMv6
import Derived.Test.YtcpgagfdeflbkaaGreatDoorZMv15
import Derived.Test.YtcpgagfdeflbkaaGreatDoorZMv3
import Derived.Test.YtcpgagfdeflbkaaGreatDoorZMv2
namespace Go.Proofs.YtcpgagfdeflbkaaGreatDoor
section
open Go Go.RowKit
theorem Good.grow {N:Nat} {st:ah} (h:Good N st) (k:Nat):Good (N+k) (st++List.replicate k none):=by
 have hm:∀ t,some t∈st++List.replicate k none->some t∈st:=fun t ht=>by
  rcases List.mem_append.1 ht with ht|ht
  ·exact ht
  ·have:=List.eq_of_mem_replicate ht
   cases this
 obtain ⟨r,hr⟩:=h.rk
 refine ⟨by simp [h.len],fun t ht=>fk (Nat.le_add_right ..) t (h.ok t (hm t ht)),fun t ht=>h.w t (hm t ht),r,fun n u hu=>?_⟩
 refine hr n u ?_
 rw [List.getElem?_append] at hu
 split at hu
 ·exact hu
 ·have:=List.eq_of_mem_replicate (List.mem_of_getElem? hu)
  cases this
def KG (b:ah) (cl:C):ah:=b++List.replicate (n3 cl).toNat none
def rV (cl:C):Prop:=(okU (n3 cl).toNat cl.head/\wT cl.head<=1048576)/\∀ t∈cl.body,okU (n3 cl).toNat t/\wT t<=1048576
def mp (chs:List Ch) (c:Ch) (cl:C) (l:List Int) (st:ah):St6:=
 ⟨cl.body.map (fun t=>(cH c.binds.length t,(chs.length:Int)))++c.rest,st,chs++(if l=[] then [] else [⟨c.goal,c.rest,l,c.binds⟩])⟩
inductive TryL (p:List C) (chs:List Ch) (c:Ch):List Int->Option St6->Prop
 | nil:TryL p chs c [] none
 | hit {i:Nat} {l:List Int} {cl:C} {st:ah}:p[i]?=some cl->Uni (KG c.binds cl) (.one c.goal (cH c.binds.length cl.head)) true st->TryL p chs c ((i:Int)::l) (some (mp chs c cl l st))
 | miss {i:Nat} {l:List Int} {cl:C} {st:ah} {o:Option St6}:p[i]?=some cl->Uni (KG c.binds cl) (.one c.goal (cH c.binds.length cl.head)) false st->TryL p chs c l o->TryL p chs c ((i:Int)::l) o
theorem TryL.inv {p:List C} {chs:List Ch} {c:Ch} {x:Int} {l:List Int} {o:Option St6} (h:TryL p chs c (x::l) o) :
  ∃ (i:Nat) (cl:C) (r:Bool) (st:ah),x=i/\p[i]?=some cl/\Uni (KG c.binds cl) (.one c.goal (cH c.binds.length cl.head)) r st/\((r=true/\o=some (mp chs c cl l st)) ∨ (r=false/\TryL p chs c l o)):=by
 cases h with
 | hit h1 h2=>exact ⟨_,_,_,_,rfl,h1,h2,.inl ⟨rfl,rfl⟩⟩
 | miss h1 h2 h3=>exact ⟨_,_,_,_,rfl,h1,h2,.inr ⟨rfl,h3⟩⟩
structure mJ (c:Ch):Prop where
 good:Good c.binds.length c.binds
 goal:okU c.binds.length c.goal/\wT c.goal<=1048576
 rest:∀ g∈c.rest,okU c.binds.length g.1/\wT g.1<=1048576
structure NF (s:St6):Prop where
 good:Good s.binds.length s.binds
 goals:∀ g∈s.goals,okU s.binds.length g.1/\wT g.1<=1048576
 chs:∀ c∈s.chs,mJ c
theorem ut {c:Ch} (hc:mJ c) (cl:C):Good (c.binds.length+(n3 cl).toNat) (KG c.binds cl):=hc.good.grow _
theorem Dl {c:Ch} {cl:C} (hc:mJ c) (hcl:rV cl):okJ (c.binds.length+(n3 cl).toNat) (.one c.goal (cH c.binds.length cl.head)):=by
 refine ⟨⟨fk (Nat.le_add_right ..) _ hc.goal.1,hc.goal.2⟩,?_,?_⟩
 ·have:=ia c.binds.length cl.head hcl.1.1
  rw [Nat.add_comm] at this
  exact this
 ·rw [ku]; exact hcl.1.2
theorem TryL.ex {p:List C} (hp:∀ cl∈p,rV cl) (chs:List Ch) {c:Ch} (hc:mJ c):∀ l:List Int,(∀ i∈l,0<=i/\i<p.length)->∃ o,TryL p chs c l o
 | [],_=>⟨none,.nil⟩
 | i::l,hl=>by
  obtain ⟨h0,h1⟩:=hl i (List.mem_cons_self ..)
  obtain ⟨n,rfl⟩:∃ n:Nat,i=n:=⟨i.toNat,by omega⟩
  have hn:n<p.length:=by omega
  have hg:p[n]?=some p[n]:=List.getElem?_eq_getElem hn
  have hcl:=hp _ (List.getElem_mem hn)
  obtain ⟨r,st,hu⟩:=xC _ _ (ut hc p[n]) (Nat.le_refl _) _ (Dl hc hcl)
  cases r with
  | true=>exact ⟨_,.hit hg hu⟩
  | false=>
   obtain ⟨o,ho⟩:=TryL.ex hp chs hc l fun i hi=>hl i (List.mem_cons_of_mem _ hi)
   exact ⟨o,.miss hg hu ho⟩
theorem TryL.ok {p:List C} (hp:∀ cl∈p,rV cl) {chs:List Ch} (hh:∀ c∈chs,mJ c) {c:Ch} (hc:mJ c) {l:List Int} {o:Option St6} (h:TryL p chs c l o):∀ s,o=some s->NF s:=by
 induction h with
 | nil=>intro s h; cases h
 | miss _ _ _ ih=>exact ih
 | @hit i l cl st hi hu=>
  intro s hs
  simp only [Option.some.injEq] at hs
  subst hs
  have hcl:=hp _ (List.mem_of_getElem? hi)
  obtain ⟨hg,_⟩:=hu.good (ut hc cl) (Dl hc hcl)
  have hlen:=hg.len
  refine ⟨by rw [mp,hlen]; exact hg,fun g hm=>?_,fun d hd=>?_⟩
  ·rw [mp] at hm ⊢
   simp only at hm ⊢
   rw [hlen]
   rcases List.mem_append.1 hm with hm|hm
   ·obtain ⟨t,ht,rfl⟩:=List.mem_map.1 hm
    obtain ⟨q1,q2⟩:=hcl.2 t ht
    have:=ia c.binds.length t q1
    rw [Nat.add_comm] at this
    exact ⟨this,by rw [ku]; exact q2⟩
   ·exact ⟨fk (Nat.le_add_right ..) _ (hc.rest g hm).1,(hc.rest g hm).2⟩
  ·rw [mp] at hd
   rcases List.mem_append.1 hd with hd|hd
   ·exact hh d hd
   ·split at hd
    ·cases hd
    ·rw [List.mem_singleton] at hd
     subst hd
     exact ⟨hc.good,hc.goal,hc.rest⟩
end
section
open Go Go.RowKit
structure Sp where
 goal:T
 clause:Int
 body:Int
structure Se where
 st:St6
 steps:List Sp
 saved:List (List Sp)
inductive FirstL (p:List C) (chs:List Ch) (c:Ch):List Int->Option (St6 × Int × List Int)->Prop
 | nil:FirstL p chs c [] none
 | hit {i:Int} {l:List Int} {s:St6}:TryL p chs c [i] (some s)->FirstL p chs c (i::l) (some (s,i,l))
 | miss {i:Int} {l:List Int} {o:Option (St6 × Int × List Int)}:TryL p chs c [i] none->FirstL p chs c l o->FirstL p chs c (i::l) o
theorem FirstL.ex {p:List C} (hp:∀ cl∈p,rV cl) (chs:List Ch) {c:Ch} (hc:mJ c):∀ l:List Int,(∀ i∈l,0<=i/\i<p.length)->∃ o,FirstL p chs c l o
 | [],_=>⟨none,.nil⟩
 | i::l,hl=>by
  obtain ⟨o,ho⟩:=TryL.ex hp chs hc [i] fun j hj=>by
   rw [List.mem_singleton] at hj
   subst hj
   exact hl j (List.mem_cons_self ..)
  cases o with
  | some s=>exact ⟨_,.hit ho⟩
  | none=>
   obtain ⟨o,h2⟩:=FirstL.ex hp chs hc l fun j hj=>hl j (List.mem_cons_of_mem _ hj)
   exact ⟨o,.miss ho h2⟩
theorem FirstL.ok {p:List C} (hp:∀ cl∈p,rV cl) {chs:List Ch} (hh:∀ c∈chs,mJ c) {c:Ch} (hc:mJ c) {l:List Int} {o:Option (St6 × Int × List Int)} (h:FirstL p chs c l o) :
  ∀ s i r,o=some (s,i,r)->NF s/\i∈l/\(∀ j∈r,j∈l):=by
 induction h with
 | nil=>intro s i r h; cases h
 | miss _ _ ih=>
  intro s i r h
  obtain ⟨h1,h2,h3⟩:=ih s i r h
  exact ⟨h1,List.mem_cons_of_mem _ h2,fun j hj=>List.mem_cons_of_mem _ (h3 j hj)⟩
 | hit ht=>
  intro s i r h
  simp only [Option.some.injEq,Prod.mk.injEq] at h
  obtain ⟨rfl,rfl,rfl⟩:=h
  exact ⟨ht.ok hp hh hc _ rfl,List.mem_cons_self ..,fun j hj=>List.mem_cons_of_mem _ hj⟩
def jr (p:List C) (s:Se) (c:Ch) (u:St6) (i:Int) (l:List Int):Se:=
 ⟨⟨u.goals,u.binds,s.st.chs++(if l=[] then [] else [⟨c.goal,c.rest,l,c.binds⟩])⟩,s.steps++[⟨c.goal,i,((p[i.toNat]?).elim 0 fun cl=>(cl.body.length:Int))⟩],s.saved++(if l=[] then [] else [s.steps])⟩
inductive TakeR (p:List C) (s:Se) (c:Ch):Option Se->Prop
 | no:FirstL p s.st.chs c c.left none->TakeR p s c none
 | yes {u:St6} {i:Int} {l:List Int}:FirstL p s.st.chs c c.left (some (u,i,l))->TakeR p s c (some (jr p s c u i l))
structure uh (n:Nat) (s:Se):Prop where
 st:NF s.st
 left:∀ c∈s.st.chs,∀ i∈c.left,0<=i/\i<n
 len:s.saved.length=s.st.chs.length
theorem TakeR.ex {p:List C} (hp:∀ cl∈p,rV cl) (s:Se) {c:Ch} (hc:mJ c) (hl:∀ i∈c.left,0<=i/\i<p.length):∃ o,TakeR p s c o:=by
 obtain ⟨o,ho⟩:=FirstL.ex hp s.st.chs hc c.left hl
 cases o with
 | none=>exact ⟨_,.no ho⟩
 | some x=>exact ⟨_,.yes (u:=x.1) (i:=x.2.1) (l:=x.2.2) ho⟩
theorem TakeR.ok {p:List C} (hp:∀ cl∈p,rV cl) {s:Se} (hh:∀ c∈s.st.chs,mJ c) (hf:∀ c∈s.st.chs,∀ i∈c.left,0<=i/\i<p.length) (hn:s.saved.length=s.st.chs.length) {c:Ch} (hc:mJ c)
  (hl:∀ i∈c.left,0<=i/\i<p.length) {o:Option Se} (h:TakeR p s c o):∀ s',o=some s'->uh p.length s':=by
 intro s' hs
 cases h with
 | no _=>cases hs
 | @yes u i l hF=>
  simp only [Option.some.injEq] at hs
  subst hs
  obtain ⟨h1,h2,h3⟩:=hF.ok hp hh hc u i l rfl
  refine ⟨⟨h1.good,h1.goals,fun d hd=>?_⟩,fun d hd j hj=>?_,?_⟩
  ·rcases List.mem_append.1 hd with hd|hd
   ·exact hh d hd
   ·split at hd
    ·cases hd
    ·rw [List.mem_singleton] at hd
     subst hd
     exact ⟨hc.good,hc.goal,hc.rest⟩
  ·rcases List.mem_append.1 hd with hd|hd
   ·exact hf d hd j hj
   ·split at hd
    ·cases hd
    ·rw [List.mem_singleton] at hd
     subst hd
     exact hl j (h3 j hj)
  ·simp only [jr,List.length_append]
   split <;> simp [hn]
inductive BackR (p:List C):List Ch->List (List Sp)->Option Se->Prop
 | nil {ss:List (List Sp)}:BackR p [] ss none
 | hit {cs:List Ch} {ss:List (List Sp)} {c:Ch} {t:List Sp} {s:Se}:TakeR p ⟨⟨[],[],cs⟩,t,ss⟩ c (some s)->BackR p (cs++[c]) (ss++[t]) (some s)
 | miss {cs:List Ch} {ss:List (List Sp)} {c:Ch} {t:List Sp} {o:Option Se}:TakeR p ⟨⟨[],[],cs⟩,t,ss⟩ c none->BackR p cs ss o->BackR p (cs++[c]) (ss++[t]) o
theorem BackR.ex {p:List C} (hp:∀ cl∈p,rV cl):∀ (n:Nat) (cs:List Ch) (ss:List (List Sp)),cs.length=n->ss.length=n->(∀ c∈cs,mJ c)->(∀ c∈cs,∀ i∈c.left,0<=i/\i<p.length)->
  ∃ o,BackR p cs ss o/\∀ s,o=some s->uh p.length s:=by
 intro n
 induction n with
 | zero=>
  intro cs ss h _ _ _
  have:=List.eq_nil_of_length_eq_zero h
  subst this
  exact ⟨none,.nil,fun s h=>by cases h⟩
 | succ n ih=>
  intro cs ss h1 h2 hh hf
  obtain ⟨cs,c,rfl⟩:=List.eq_nil_or_concat cs |>.resolve_left fun e=>by rw [e] at h1; cases h1
  obtain ⟨ss,t,rfl⟩:=List.eq_nil_or_concat ss |>.resolve_left fun e=>by rw [e] at h2; cases h2
  simp only [List.concat_eq_append,List.length_append,List.length_singleton,Nat.add_right_cancel_iff] at h1 h2 hh hf ⊢
  have hc:=hh c (by simp)
  have hl:=hf c (by simp)
  have hh':∀ c∈cs,mJ c:=fun d hd=>hh d (List.mem_append_left _ hd)
  have hf':∀ c∈cs,∀ i∈c.left,0<=i/\i<p.length:=fun d hd=>hf d (List.mem_append_left _ hd)
  obtain ⟨o,ho⟩:=TakeR.ex hp ⟨⟨[],[],cs⟩,t,ss⟩ hc hl
  cases o with
  | some s=>exact ⟨_,.hit ho,fun s' e=>ho.ok hp hh' hf' (by simp only; omega) hc hl s' e⟩
  | none=>
   obtain ⟨o,h3,h4⟩:=ih cs ss h1 h2 hh' hf'
   exact ⟨o,.miss ho h3,h4⟩
end
section
open Go Go.RowKit
def fX (p:List C) (g:T):List Int:=fu (fun c=>mN (dF c.head) (dF g)) p 0
theorem lE (p:List C) (g:T):∀ i∈fX p g,0<=i/\i<p.length:=by
 intro i hi
 obtain ⟨j,h0,rfl,hj,_⟩:=yl _ p 0 i hi
 omega
inductive OneR (p:List C) (s:Se):Se->Int->Prop
 | big {g:T × Int} {rest:List (T × Int)} {u:T}:s.st.goals=g::rest->Res s.st.binds (.one g.1 u)->(bB u=false ∨ fC u=true)->OneR p s s 0
 | took {g:T × Int} {rest:List (T × Int)} {u:T} {s':Se}:s.st.goals=g::rest->Res s.st.binds (.one g.1 u)->bB u=true->fC u=false->cn u=false->
   TakeR p s ⟨u,rest,fX p u,s.st.binds⟩ (some s')->OneR p s s' (-1)
 | stuck {g:T × Int} {rest:List (T × Int)} {u:T}:s.st.goals=g::rest->Res s.st.binds (.one g.1 u)->bB u=true->fC u=false->cn u=false->
   TakeR p s ⟨u,rest,fX p u,s.st.binds⟩ none->OneR p s s (-2)
 | fail {g:T × Int} {rest:List (T × Int)} {u:T} {st:ah}:s.st.goals=g::rest->Res s.st.binds (.one g.1 u)->bB u=true->fC u=false->cn u=true->
   Blt s.st.binds u 1 st->OneR p s s (-2)
 | err {g:T × Int} {rest:List (T × Int)} {u:T} {st:ah} {c:Int}:s.st.goals=g::rest->Res s.st.binds (.one g.1 u)->bB u=true->fC u=false->cn u=true->
   Blt s.st.binds u c st->c≠0->c≠1->OneR p s s 0
 | solved {g:T × Int} {rest:List (T × Int)} {u:T} {st:ah}:s.st.goals=g::rest->Res s.st.binds (.one g.1 u)->bB u=true->fC u=false->cn u=true->
   Blt s.st.binds u 0 st->OneR p s ⟨⟨rest,st,s.st.chs⟩,s.steps++[⟨u,-1,0⟩],s.saved⟩ (-1)
theorem OneR.ex {p:List C} (hp:∀ cl∈p,rV cl) {s:Se} (hs:uh p.length s) (hg:s.st.goals≠[]):∃ s' k,OneR p s s' k/\uh p.length s':=by
 obtain ⟨g,rest,hgr⟩:∃ g rest,s.st.goals=g::rest:=by
  cases h:s.st.goals with
  | nil=>exact absurd h hg
  | cons g rest=>exact ⟨g,rest,rfl⟩
 have hgo:=hs.st.goals
 rw [hgr] at hgo
 have hg1:=hgo g (List.mem_cons_self ..)
 obtain ⟨us,hus⟩:=sw hs.st.good [g.1] (by simp only [cD]; exact ⟨hg1.1,trivial⟩)
 obtain ⟨u,hu⟩:∃ u,Res s.st.binds (.one g.1 u):=by
  cases hus with
  | cons h _=>exact ⟨_,h⟩
 have hou:okU s.st.binds.length u:=i9 hs.st.good hu hg1.1
 cases hsm:bB u with
 | false=>exact ⟨_,_,.big hgr hu (.inl hsm),hs⟩
 | true=>
  have hw:=fE hsm hou
  cases hc:fC u with
  | true=>exact ⟨_,_,.big hgr hu (.inr hc),hs⟩
  | false=>
   cases hb:cn u with
   | false=>
    have hch:mJ ⟨u,rest,fX p u,s.st.binds⟩:=⟨hs.st.good,⟨hou,by simp only; omega⟩,fun x hx=>hgo x (List.mem_cons_of_mem _ hx)⟩
    obtain ⟨o,ho⟩:=TakeR.ex hp s hch (lE p u)
    cases o with
    | none=>exact ⟨_,_,.stuck hgr hu hsm hc hb ho,hs⟩
    | some s'=>exact ⟨_,_,.took hgr hu hsm hc hb ho,ho.ok hp hs.st.chs hs.left hs.len hch (lE p u) _ rfl⟩
   | true=>
    obtain ⟨c,st,hB⟩:=Blt.ex hs.st.good hb ⟨hou,by omega⟩
    by_cases h1:c=1
    ·subst h1
     exact ⟨_,_,.fail hgr hu hsm hc hb hB,hs⟩
    by_cases h0:c=0
    ·subst h0
     refine ⟨_,_,.solved hgr hu hsm hc hb hB,?_⟩
     have hgd:=hB.good hs.st.good hb ⟨hou,by omega⟩
     have hl:=hgd.len
     exact ⟨⟨by simp only [hl]; exact hgd,fun x hx=>by simp only [hl]; exact hgo x (List.mem_cons_of_mem _ hx),hs.st.chs⟩,hs.left,hs.len⟩
    ·exact ⟨_,_,.err hgr hu hsm hc hb hB h0 h1,hs⟩
end
section
open Go Go.RowKit
inductive Srch (p:List C):Nat->Se->Option Se->Prop
 | done {n:Nat} {s:Se}:s.st.goals=[]->Srch p n s (some s)
 | out {s:Se}:s.st.goals≠[]->Srch p 0 s none
 | halt {n:Nat} {s s':Se}:s.st.goals≠[]->OneR p s s' 0->Srch p (n+1) s none
 | step {n:Nat} {s s':Se} {o:Option Se}:s.st.goals≠[]->OneR p s s' (-1)->Srch p n s' o->Srch p (n+1) s o
 | stop {n:Nat} {s s':Se}:s.st.goals≠[]->OneR p s s' (-2)->BackR p s'.st.chs s'.saved none->Srch p (n+1) s none
 | back {n:Nat} {s s' t:Se} {o:Option Se}:s.st.goals≠[]->OneR p s s' (-2)->BackR p s'.st.chs s'.saved (some t)->Srch p n t o->Srch p (n+1) s o
theorem OneR.code {p:List C} {s s':Se} {k:Int} (h:OneR p s s' k):k=0 ∨ k=-1 ∨ k=-2:=by
 cases h <;> simp
theorem Srch.ex {p:List C} (hp:∀ cl∈p,rV cl):∀ (n:Nat) (s:Se),uh p.length s->∃ o,Srch p n s o/\∀ t,o=some t->uh p.length t:=by
 intro n
 induction n with
 | zero=>
  intro s hs
  by_cases hg:s.st.goals=[]
  ·exact ⟨_,.done hg,fun t h=>by rw [Option.some.injEq] at h; subst h; exact hs⟩
  ·exact ⟨_,.out hg,fun t h=>by cases h⟩
 | succ n ih=>
  intro s hs
  by_cases hg:s.st.goals=[]
  ·exact ⟨_,.done hg,fun t h=>by rw [Option.some.injEq] at h; subst h; exact hs⟩
  obtain ⟨s',k,h1,h2⟩:=OneR.ex hp hs hg
  rcases h1.code with rfl|rfl|rfl
  ·exact ⟨_,.halt hg h1,fun t h=>by cases h⟩
  ·obtain ⟨o,h3,h4⟩:=ih s' h2
   exact ⟨o,.step hg h1 h3,h4⟩
  ·obtain ⟨o,h3,h4⟩:=BackR.ex hp _ s'.st.chs s'.saved rfl h2.len h2.st.chs h2.left
   cases o with
   | none=>exact ⟨_,.stop hg h1 h3,fun t h=>by cases h⟩
   | some t=>
    obtain ⟨o,h5,h6⟩:=ih t (h4 t rfl)
    exact ⟨o,.back hg h1 h3 h5,h6⟩
end
section
open Go Go.RowKit
def mK:List Sp->Int
 | []=>1
 | x::xs=>x.body - 1+mK xs
theorem vq:∀ (a b:List Sp),mK (a++b)=mK a+mK b - 1
 | [],b=>by rw [List.nil_append,mK]; omega
 | x::a,b=>by rw [List.cons_append,mK,mK,vq a b]; omega
theorem AK (a:List Sp) (x:Sp):mK (a++[x])=mK a+x.body - 1:=by
 rw [vq]
 simp only [mK]
 omega
def openP (l:List Sp):Prop:=∀ a b,l=a++b->b≠[]->0<mK a
theorem openP.nil:openP []:=by
 intro a b h hb
 have:=congrArg List.length h
 cases b with
 | nil=>exact absurd rfl hb
 | cons y b=>simp at this
theorem openP.snoc {l:List Sp} (h:openP l) (hp:0<mK l) (x:Sp):openP (l++[x]):=by
 intro a b e hb
 obtain ⟨b',y,rfl⟩:=(List.eq_nil_or_concat b).resolve_left hb
 rw [List.concat_eq_append,<- List.append_assoc] at e
 have e2:=List.append_inj_left' e (by simp)
 subst e2
 cases b' with
 | nil=>rw [List.append_nil] at hp; exact hp
 | cons z b'=>exact h a (z::b') rfl (by simp)
structure okP (s:Se):Prop where
 goals:(s.st.goals.length:Int)=mK s.steps
 openP:openP s.steps
 saved:∀ i (h:i<s.st.chs.length) (h':i<s.saved.length),(s.st.chs[i].rest.length:Int)+1=mK s.saved[i]/\Go.Proofs.YtcpgagfdeflbkaaGreatDoor.openP s.saved[i]
def Ik (p:List C) (i:Int):Int:=(p[i.toNat]?).elim 0 fun cl=>(cl.body.length:Int)
theorem TryL.goals {p:List C} {chs:List Ch} {c:Ch} {i:Int} {s:St6} (h:TryL p chs c [i] (some s)):(s.goals.length:Int)=Ik p i+c.rest.length:=by
 cases h with
 | hit hi _=>simp [mp,Ik,hi]
 | miss _ _ h=>cases h
theorem FirstL.goals {p:List C} {chs:List Ch} {c:Ch} {l:List Int} {o:Option (St6 × Int × List Int)} (h:FirstL p chs c l o):∀ s i r,o=some (s,i,r)->(s.goals.length:Int)=Ik p i+c.rest.length:=by
 induction h with
 | nil=>intro s i r h; cases h
 | miss _ _ ih=>exact ih
 | hit ht=>
  intro s i r h
  simp only [Option.some.injEq,Prod.mk.injEq] at h
  obtain ⟨rfl,rfl,rfl⟩:=h
  exact ht.goals
theorem TakeR.okP {p:List C} {s s':Se} {c:Ch} (h:TakeR p s c (some s')) (hn:s.saved.length=s.st.chs.length) (hr:(c.rest.length:Int)+1=mK s.steps) (ho:openP s.steps)
  (hs:∀ i (h:i<s.st.chs.length) (h':i<s.saved.length),(s.st.chs[i].rest.length:Int)+1=mK s.saved[i]/\Go.Proofs.YtcpgagfdeflbkaaGreatDoor.openP s.saved[i]):okP s':=by
 cases h with
 | @yes u i l hF=>
  have hg:=hF.goals u i l rfl
  refine ⟨?_,?_,?_⟩
  ·simp only [jr,AK]
   rw [hg,Ik]
   omega
  ·exact ho.snoc (by omega) _
  ·intro k h1 h2
   simp only [jr] at h1 h2 ⊢
   by_cases hl:l=[]
   ·subst hl
    simp only [if_pos,List.append_nil] at h1 h2 ⊢
    exact hs k h1 h2
   ·simp only [if_neg hl,List.length_append,List.length_singleton] at h1 h2 ⊢
    by_cases hk:k<s.st.chs.length
    ·rw [List.getElem_append_left hk,List.getElem_append_left (by omega)]
     exact hs k hk (by omega)
    ·have hk1:k=s.st.chs.length:=by omega
     subst hk1
     rw [List.getElem_append_right (Nat.le_refl _),List.getElem_append_right (by omega)]
     simp only [hn,Nat.sub_self,List.getElem_cons_zero]
     exact ⟨hr,ho⟩
end
section
open Go Go.RowKit
def okB (cs:List Ch) (ss:List (List Sp)):Prop:=∀ i (h:i<cs.length) (h':i<ss.length),(cs[i].rest.length:Int)+1=mK ss[i]/\openP ss[i]
theorem okB.last {cs:List Ch} {ss:List (List Sp)} {c:Ch} {t:List Sp} (h:okB (cs++[c]) (ss++[t])) (hl:cs.length=ss.length):okB cs ss/\(c.rest.length:Int)+1=mK t/\openP t:=by
 constructor
 ·intro i h1 h2
  have:=h i (by simp; omega) (by simp; omega)
  rw [List.getElem_append_left h1,List.getElem_append_left h2] at this
  exact this
 ·have:=h cs.length (by simp) (by simp [hl])
  rw [List.getElem_append_right (Nat.le_refl _),List.getElem_append_right (by omega)] at this
  simp only [hl,Nat.sub_self,List.getElem_cons_zero] at this
  exact this
theorem BackR.okP {p:List C} {cs:List Ch} {ss:List (List Sp)} {o:Option Se} (h:BackR p cs ss o):cs.length=ss.length->okB cs ss->∀ s,o=some s->okP s:=by
 induction h with
 | nil=>intro _ _ s h; cases h
 | hit ht=>
  intro hl hb s h
  simp only [List.length_append,List.length_singleton,Nat.add_right_cancel_iff] at hl
  obtain ⟨h1,h2,h3⟩:=hb.last hl
  rw [Option.some.injEq] at h
  subst h
  exact ht.okP hl.symm h2 h3 h1
 | miss _ _ ih=>
  intro hl hb
  simp only [List.length_append,List.length_singleton,Nat.add_right_cancel_iff] at hl
  exact ih hl (hb.last hl).1
theorem OneR.okP {p:List C} {s s':Se} {k:Int} (h:OneR p s s' k) (hn:s.saved.length=s.st.chs.length) (ho:okP s):okP s':=by
 have hgl:=ho.goals
 cases h with
 | big=>exact ho
 | stuck=>exact ho
 | fail=>exact ho
 | err=>exact ho
 | took hg _ _ _ _ ht=>
  rw [hg] at hgl
  refine ht.okP hn ?_ ho.openP ho.saved
  simp only [List.length_cons] at hgl ⊢
  omega
 | solved hg _ _ _ _ _=>
  rw [hg] at hgl
  simp only [List.length_cons] at hgl
  refine ⟨?_,ho.openP.snoc (by omega) _,ho.saved⟩
  simp only [AK]
  omega
theorem OneR.ok {p:List C} (hp:∀ cl∈p,rV cl) {s s':Se} {k:Int} (h:OneR p s s' k) (hs:uh p.length s):uh p.length s':=by
 have hgo:=hs.st.goals
 cases h with
 | big=>exact hs
 | stuck=>exact hs
 | fail=>exact hs
 | err=>exact hs
 | took hg hu hsm _ _ ht=>
  rw [hg] at hgo
  have hou:=i9 hs.st.good hu (hgo _ (List.mem_cons_self ..)).1
  have hw:=fE hsm hou
  exact ht.ok hp hs.st.chs hs.left hs.len ⟨hs.st.good,⟨hou,by simp only; omega⟩,fun x hx=>hgo x (List.mem_cons_of_mem _ hx)⟩ (lE p _) _ rfl
 | solved hg hu hsm _ hb hB=>
  rw [hg] at hgo
  have hou:=i9 hs.st.good hu (hgo _ (List.mem_cons_self ..)).1
  have hw:=fE hsm hou
  have hgd:=hB.good hs.st.good hb ⟨hou,by omega⟩
  have hl:=hgd.len
  exact ⟨⟨by simp only [hl]; exact hgd,fun x hx=>by simp only [hl]; exact hgo x (List.mem_cons_of_mem _ hx),hs.st.chs⟩,hs.left,hs.len⟩
theorem BackR.ok {p:List C} (hp:∀ cl∈p,rV cl) {cs:List Ch} {ss:List (List Sp)} {o:Option Se} (h:BackR p cs ss o):cs.length=ss.length->(∀ c∈cs,mJ c)->(∀ c∈cs,∀ i∈c.left,0<=i/\i<p.length)->∀ s,o=some s->uh p.length s:=by
 induction h with
 | nil=>intro _ _ _ s h; cases h
 | hit ht=>
  intro hl hh hf s h
  simp only [List.length_append,List.length_singleton,Nat.add_right_cancel_iff] at hl
  exact ht.ok hp (fun d hd=>hh d (List.mem_append_left _ hd)) (fun d hd=>hf d (List.mem_append_left _ hd)) hl.symm (hh _ (by simp)) (hf _ (by simp)) s h
 | miss _ _ ih=>
  intro hl hh hf
  simp only [List.length_append,List.length_singleton,Nat.add_right_cancel_iff] at hl
  exact ih hl (fun d hd=>hh d (List.mem_append_left _ hd)) (fun d hd=>hf d (List.mem_append_left _ hd))
theorem Srch.ok {p:List C} (hp:∀ cl∈p,rV cl) {n:Nat} {s:Se} {o:Option Se} (h:Srch p n s o):uh p.length s->okP s->∀ t,o=some t->uh p.length t/\okP t/\t.st.goals=[]:=by
 induction h with
 | done hg=>intro h1 h2 t h; rw [Option.some.injEq] at h; subst h; exact ⟨h1,h2,hg⟩
 | out=>intro _ _ t h; cases h
 | halt=>intro _ _ t h; cases h
 | stop=>intro _ _ t h; cases h
 | step hg h1 _ ih=>exact fun hs ho=>ih (h1.ok hp hs) (h1.okP hs.len ho)
 | back hg h1 h2 _ ih=>
  intro hs ho
  have hs':=h1.ok hp hs
  have ho':=h1.okP hs.len ho
  exact ih (h2.ok hp hs'.len.symm hs'.st.chs hs'.left _ rfl) (h2.okP hs'.len.symm ho'.saved _ rfl)
end
section
open Go Go.ChangeShapes Go.WideShapes Go.ChangeAt Go.RowKit

inductive PF where
 | mk (goal:T) (clause:Int) (kids:List PF)
def PF.goal:PF->T
 | .mk g _ _=>g
def PF.clause:PF->Int
 | .mk _ c _=>c
def PF.kids:PF->List PF
 | .mk _ _ ks=>ks
theorem PF.ind {p:PF->Prop} (h:∀ g c ks,(∀ t∈ks,p t)->p (.mk g c ks)) (t:PF):p t:=
 PF.rec (motive_1:=p) (motive_2:=fun l=>∀ t∈l,p t) (fun g c ks ih=>h g c ks ih) (by simp) (fun a l h1 h2 t ht=>by
  rcases List.mem_cons.1 ht with rfl|ht
  ·exact h1
  ·exact h2 t ht) t
inductive RdF (S:ad):List Value->PF->Prop
 | nil {a0 a1 a2 a3:Value} {g:T} {c:Int} {a:Option Addr} {cap:Nat} (hg:RdT S [a0,a1,a2,a3] g) (hn:inI c) (hc:cap<=maxLen) :
   RdF S [a0,a1,a2,a3,.int .i64 c,.slice a 0 cap] (.mk g c [])
 | cons {a0 a1 a2 a3:Value} {g:T} {n:Int} {kids:List PF} {b o cap:Nat} {c:Array Value} {E:TypeId} {fz:Nat × Nat} (hg:RdT S [a0,a1,a2,a3] g) (hn:inI n) (hl:kids.length<=cap) (hc:cap<=maxLen)
   (hS:S b=some (.cells c E fz)) (h:∀ i (h:i<kids.length),RdF S (aV c (o+i * 6) 6) kids[i]) :
   RdF S [a0,a1,a2,a3,.int .i64 n,.slice (some ⟨b,o,none⟩) kids.length cap] (.mk g n kids)
theorem RdF.iff {S:ad} {cs:List Value} {x:PF}:RdF S cs x ↔
  ∃ kv ks,cs=[.int .i64 x.goal.kind,.int .i64 x.goal.n,.string x.goal.name,kv,.int .i64 x.clause,ks]/\RdT S [.int .i64 x.goal.kind,.int .i64 x.goal.n,.string x.goal.name,kv] x.goal/\inI x.clause/\RdSl S 6 (RdF S) ks x.kids:=by
 constructor
 ·intro h
  cases h with
  | nil hg hn hc=>
   obtain ⟨kv,e,_⟩:=RdT.iff.1 hg
   simp only [List.cons.injEq,and_true] at e
   obtain ⟨rfl,rfl,rfl,rfl⟩:=e
   exact ⟨_,_,rfl,hg,hn,_,_,rfl,Nat.zero_le _,hc,.inl rfl⟩
  | cons hg hn hl hc hS h=>
   obtain ⟨kv,e,_⟩:=RdT.iff.1 hg
   simp only [List.cons.injEq,and_true] at e
   obtain ⟨rfl,rfl,rfl,rfl⟩:=e
   exact ⟨_,_,rfl,hg,hn,_,_,rfl,hl,hc,.inr ⟨_,_,_,_,_,rfl,hS,h⟩⟩
 ·obtain ⟨g,n,kids⟩:=x
  rintro ⟨kv,ks,rfl,hg,hn,a,cap,rfl,hl,hc,h⟩
  rcases h with h|⟨b,o,c,E,fz,rfl,hS,h⟩
  ·simp only [PF.kids] at h
   subst h
   exact RdF.nil hg hn hc
  ·exact RdF.cons hg hn hl hc hS h
theorem RdF.length {S:ad} {cs:List Value} {x:PF} (h:RdF S cs x):cs.length=6:=by
 obtain ⟨_,_,rfl,_⟩:=RdF.iff.1 h; rfl
theorem RdF.one {S:ad} {cs:List Value} {x:PF} (h:RdF S cs x):∀ u∈cs,u.oneCell'=true:=by
 obtain ⟨kv,ks,rfl,hg,_,a,cap,rfl,_⟩:=RdF.iff.1 h
 have:=hg.one kv (by simp)
 intro u hu
 simp at hu
 rcases hu with rfl|rfl|rfl|rfl|rfl|rfl <;> first|rfl|exact this
theorem RdF.mono {S S':ad} (hs:Sle S S') {cs:List Value} {x:PF} (h:RdF S cs x):RdF S' cs x:=by
 induction h with
 | nil hg hn hc=>exact RdF.nil (hg.mono hs) hn hc
 | cons hg hn hl hc hS _ ih=>exact RdF.cons (hg.mono hs) hn hl hc (hs _ _ hS) ih
inductive TrF:aN->List Value->PF->Prop
 | nil {L:aN} {a0 a1 a2 a3:Value} {g:T} {n:Int} {a:Option Addr} {cap:Nat} (hg:TrT L [a0,a1,a2,a3] g) (hn:inI n) (hc:cap<=maxLen) :
   TrF L [a0,a1,a2,a3,.int .i64 n,.slice a 0 cap] (.mk g n [])
 | cons {L:aN} {a0 a1 a2 a3:Value} {g:T} {n:Int} {kids:List PF} {b cap:Nat} {c:Array Value} {E:TypeId} {Ls:List aN} (hg:TrT L [a0,a1,a2,a3] g) (hn:inI n) (hl:kids.length<=cap) (hc:cap<=maxLen)
   (hLs:Ls.length=kids.length) (hsz:cap * 6<=c.size) (h:∀ i (h:i<kids.length) (h':i<Ls.length),TrF Ls[i] (aV c (i * 6) 6) kids[i]) :
   TrF (L++(b,.cells c E)::Ls.flatten) [a0,a1,a2,a3,.int .i64 n,.slice (some ⟨b,0,none⟩) kids.length cap] (.mk g n kids)
theorem TrF.iff {L:aN} {cs:List Value} {x:PF}:TrF L cs x ↔
  ∃ L1 L2 kv ks,L=L1++L2/\cs=[.int .i64 x.goal.kind,.int .i64 x.goal.n,.string x.goal.name,kv,.int .i64 x.clause,ks]/\TrT L1 [.int .i64 x.goal.kind,.int .i64 x.goal.n,.string x.goal.name,kv] x.goal/\inI x.clause/\TrSl 6 TrF L2 ks x.kids:=by
 constructor
 ·intro h
  cases h with
  | nil hg hn hc=>
   obtain ⟨kv,e,_⟩:=TrT.iff.1 hg
   simp only [List.cons.injEq,and_true] at e
   obtain ⟨rfl,rfl,rfl,rfl⟩:=e
   exact ⟨_,[],_,_,(List.append_nil _).symm,rfl,hg,hn,_,_,rfl,Nat.zero_le _,hc,.inl ⟨rfl,rfl⟩⟩
  | cons hg hn hl hc hLs hsz h=>
   obtain ⟨kv,e,_⟩:=TrT.iff.1 hg
   simp only [List.cons.injEq,and_true] at e
   obtain ⟨rfl,rfl,rfl,rfl⟩:=e
   exact ⟨_,_,_,_,rfl,rfl,hg,hn,_,_,rfl,hl,hc,.inr ⟨_,_,_,_,rfl,rfl,hLs,hsz,h⟩⟩
 ·obtain ⟨g,n,kids⟩:=x
  rintro ⟨L1,L2,kv,ks,rfl,rfl,hg,hn,a,cap,rfl,hl,hc,h⟩
  rcases h with ⟨h,rfl⟩|⟨b,c,E,Ls,rfl,rfl,hLs,hsz,h⟩
  ·simp only [PF.kids] at h
   subst h
   rw [List.append_nil]
   exact TrF.nil hg hn hc
  ·exact TrF.cons hg hn hl hc hLs hsz h
theorem TrF.length {L:aN} {cs:List Value} {x:PF} (h:TrF L cs x):cs.length=6:=by
 obtain ⟨_,_,_,_,_,rfl,_⟩:=TrF.iff.1 h; rfl
theorem TrF.one {L:aN} {cs:List Value} {x:PF} (h:TrF L cs x):∀ u∈cs,u.oneCell'=true:=by
 obtain ⟨_,_,kv,ks,_,rfl,hg,_,a,cap,rfl,_⟩:=TrF.iff.1 h
 have:=hg.one kv (by simp)
 intro u hu
 simp at hu
 rcases hu with rfl|rfl|rfl|rfl|rfl|rfl <;> first|rfl|exact this
theorem TrF.rd {S:ad} {L:aN} {cs:List Value} {x:PF} (h:TrF L cs x) (hi:Ins S L):RdF S cs x:=by
 induction h with
 | nil hg hn hc=>exact RdF.nil (hg.rd hi) hn hc
 | cons hg hn hl hc hLs hsz h ih=>
  refine RdF.cons (hg.rd hi.left) hn hl hc (hi.right _ (List.mem_cons_self ..)) (o:=0) fun i h1=>?_
  rw [Nat.zero_add]
  exact ih i h1 (by omega) (wM (fun p hp=>hi.right p (List.mem_cons_of_mem _ hp)) (by omega))
section
attribute [local irreducible] Run CondV ao aI
end
section
variable {H:Type} {enc:TypeId × Value->H} {W:World} {sp:Nat->Bool} {held:Bool}
end
end
section
open Go Go.RowKit
section
attribute [local irreducible] Run CondV ao aI
end
section
attribute [local irreducible] Run CondV ao aI
end
end
section
open Go Go.RowKit
section
variable {S:ad} {ys:List Nat} {v:Value}
attribute [local irreducible] Run CondV ao aI
end
end
section
open Go Go.RowKit

section
attribute [local irreducible] Run CondV ao aI
end
end
section
open Go Go.RowKit
def Agk (σ:Int->T) (st:ah):Prop:=∀ (i:Nat) (t:T),st[i]?=some (some t)->σ i=t
def Gek (st st':ah):Prop:=st'.length=st.length/\∀ (i:Nat) (t:T),st[i]?=some (some t)->st'[i]?=some (some t)
theorem Gek.refl (st:ah):Gek st st:=⟨rfl,fun _ _ h=>h⟩
theorem Gek.trans {a b c:ah} (h:Gek a b) (h':Gek b c):Gek a c:=⟨h'.1.trans h.1,fun i t hi=>h'.2 i t (h.2 i t hi)⟩
theorem Agk.less {σ:Int->T} {a b:ah} (h:Agk σ b) (hg:Gek a b):Agk σ a:=fun i t hi=>h i t (hg.2 i t hi)
end
section
open Go Go.RowKit
section
variable {S:ad} {ys zs:List Nat} {v u:Value}
attribute [local irreducible] Run CondV ao aI
theorem RdC.cells {S:ad} {cs:List Value} {c:C} (h:RdC S cs c):∃ kv kb,cs=[.int .i64 c.head.kind,.int .i64 c.head.n,.string c.head.name,kv,kb]/\RdT S [.int .i64 c.head.kind,.int .i64 c.head.n,.string c.head.name,kv] c.head/\RdSl S 4 (RdT S) kb c.body:=by
 obtain ⟨hd,kb,rfl,h1,h2⟩:=h
 have h1':=h1
 obtain ⟨kv,rfl,_⟩:=RdT.iff.1 h1
 exact ⟨kv,kb,rfl,h1',h2⟩
end
end
section
open Go Go.RowKit
theorem oJ {t:T} (h:cZ t=true):wT t<=840:=by
 have ho:=ib h
 have h1:=Gz t ho
 rw [cZ,Bool.and_eq_true] at h
 have h2:dk t<=120:=by simpa using h.2
 omega
theorem i3 {g:T} (h:dM g=true):cZ g=true:=by
 rw [dM,Bool.and_eq_true] at h; exact h.1
theorem IU {g:T} (h:dM g=true):decide (g.kind=3)=true:=by
 rw [dM,Bool.and_eq_true,Bool.or_eq_true,Bool.or_eq_true] at h
 rcases h.2 with h|h|h
 ·rw [fC,Bool.and_eq_true] at h; exact h.1
 ·rw [fP,Bool.and_eq_true] at h; exact h.1
 ·rw [cn,Bool.and_eq_true] at h; exact h.1
def bltF (g:T) (f:Bool):Prop:=(cn g=false/\f=false) ∨ (cn g=true/\∃ code st',Blt PO g code st'/\f=Of code st')
theorem bltF.ex {g:T} (h:cZ g=true):∃ f,bltF g f:=by
 cases hb:cn g with
 | false=>exact ⟨false,.inl ⟨hb,rfl⟩⟩
 | true=>
  have:=oJ h
  obtain ⟨c,st',hB⟩:=Blt.ex (Bw 26) hb ⟨ib h,by omega⟩
  exact ⟨_,.inr ⟨hb,c,st',hB,rfl⟩⟩
open Classical in
noncomputable def bltV (g:T):Bool:=if h:∃ f,bltF g f then h.choose else false
def M9:List T->List PF->ah->Bool
 | g::gs,x::xs,st=>!fC g && ((lA g x.goal st).1 && M9 gs xs (lA g x.goal st).2)
 | _,_,_=>true
noncomputable def nodeC (p:List C) (g:T) (c:Int) (ks:List PF):Bool:=if c<0 then decide (ks.length=0) && bltV g else match p[c.toNat]? with
 | none=>false
 | some q=>decide (ks.length=q.body.length) && ((lA q.head g st0).1 && M9 q.body ks (lA q.head g st0).2)
mutual
noncomputable def chkF (p:List C):PF->Bool
 | .mk g c ks=>nodeC p g c ks && chkFL p ks
noncomputable def chkFL (p:List C):List PF->Bool
 | []=>true
 | x::xs=>chkF p x && chkFL p xs
end
noncomputable def interL (p:List C):List T->List PF->ah->Bool
 | g::gs,x::xs,st=>!fC g && ((lA g x.goal st).1 && (chkF p x && interL p gs xs (lA g x.goal st).2))
 | _,_,_=>true
section
attribute [local irreducible] Run CondV ao aI
end
end
section
open Go Go.RowKit
mutual
def okM:T->Prop
 | .mk k n s ks=>(k=2->-999<=n/\n<=999)/\(k≠3->s=emptyB)/\kq ks
def kq:List T->Prop
 | []=>True
 | t::ts=>okM t/\kq ts
end
theorem n9:∀ {ts:List T},kq ts->∀ t∈ts,okM t
 | t::ts,h,x,hx=>by
  rw [kq] at h
  rcases List.mem_cons.1 hx with rfl|hx
  ·exact h.1
  ·exact n9 h.2 x hx
theorem HU:∀ {ts:List T},(∀ t∈ts,okM t)->kq ts
 | [],_=>by rw [kq]; trivial
 | t::ts,h=>by rw [kq]; exact ⟨h t (List.mem_cons_self ..),HU fun u hu=>h u (List.mem_cons_of_mem _ hu)⟩
theorem okM.kids {t:T} (h:okM t):kq t.kids:=by cases t; rw [okM] at h; exact h.2.2
mutual
theorem okM.okN:∀ {t:T},okM t->okN t
 | .mk k n s ks,h=>by
  rw [okM] at h
  rw [Go.Proofs.YtcpgagfdeflbkaaGreatDoor.okN]
  exact ⟨h.1,DH h.2.2⟩
theorem DH:∀ {ts:List T},kq ts->BK ts
 | [],_=>by rw [BK]; trivial
 | t::ts,h=>by
  rw [kq] at h
  rw [BK]
  exact ⟨okM.okN h.1,DH h.2⟩
end
mutual
theorem AH:∀ (t:T) (d:Int),eU t d=true->okM t
 | .mk k n s ks,d,h=>by
  rw [eU] at h
  split at h
  ·cases h
  rw [Bool.and_eq_true] at h
  obtain ⟨ho,hk⟩:=h
  rw [okM]
  have h2:k=2->(-999<=n/\n<=999)/\s=emptyB:=by
   intro e
   subst e
   have ho2:dH (.mk 2 n s ks)=(decide (-999<=n) && (decide (n<=999) && (decide (s=emptyB) && decide (ks.length=0)))):=by
    rw [dH]; exact (if_neg (show ¬ (2:Int)=1 by decide)).trans (if_pos rfl)
   rw [ho2,Bool.and_eq_true,Bool.and_eq_true,Bool.and_eq_true] at ho
   exact ⟨⟨of_decide_eq_true ho.1,of_decide_eq_true ho.2.1⟩,of_decide_eq_true ho.2.2.1⟩
  refine ⟨fun e=>(h2 e).1,fun e=>?_,xu ks _ hk⟩
  by_cases e2:k=2
  ·exact (h2 e2).2
  ·have ho:(if k=1 then decide (0<=n) && (decide (n<=25) && (decide (s=emptyB) && decide (ks.length=0))) else if k=2 then decide (-999<=n) && (decide (n<=999) && (decide (s=emptyB) && decide (ks.length=0))) else if k=3 then decide (n=0) && (i5 s && decide (ks.length<=4)) else false)=true:=ho
   rw [if_neg e2,if_neg e] at ho
   split at ho
   ·simp only [Bool.and_eq_true,decide_eq_true_eq] at ho
    exact ho.2.2.1
   ·cases ho
theorem xu:∀ (ts:List T) (d:Int),eT ts d=true->kq ts
 | [],_,_=>by rw [kq]; trivial
 | t::ts,d,h=>by
  rw [eT,Bool.and_eq_true] at h
  rw [kq]
  exact ⟨AH t d h.1,xu ts d h.2⟩
end
theorem s8 {t:T} (h:cZ t=true):okM t:=AH t 30 (vI h)
mutual
theorem lb (m:Int):∀ t:T,okM t->okM (cH m t)
 | .mk k n s ks,h=>by
  rw [okM] at h
  rw [cH,okM]
  refine ⟨fun e=>?_,h.2.1,yU m ks h.2.2⟩
  rw [if_neg (by omega)]
  exact h.1 e
theorem yU (m:Int):∀ ts:List T,kq ts->kq (eB m ts)
 | [],_=>by rw [eB,kq]; trivial
 | t::ts,h=>by
  rw [kq] at h
  rw [eB,kq]
  exact ⟨lb m t h.1,yU m ts h.2⟩
end
def tabM (st:ah):Prop:=∀ t,some t∈st->okM t
theorem tabM.set {st:ah} (h:tabM st) {n:Nat} {t:T} (ht:okM t):tabM (st.set n (some t)):=by
 intro u hu
 rcases List.mem_or_eq_of_mem_set hu with hu|hu
 ·exact h u hu
 ·rw [Option.some.injEq] at hu
  subst hu
  exact ht
theorem tabM.look {st:ah} (h:tabM st) {t u:T} (hl:look st t=some u):okM u:=h u (List.mem_of_getElem? (cA.1 hl).2)
theorem tabM.walk {st:ah} (h:tabM st) {t v:T} (hw:cK st t v) (ht:okM t):okM v:=by
 induction hw with
 | stop=>exact ht
 | step hl _ ih=>exact ih (h.look hl)
theorem tabM.grow {st:ah} (h:tabM st) (k:Nat):tabM (st++List.replicate k none):=by
 intro t ht
 rcases List.mem_append.1 ht with ht|ht
 ·exact h t ht
 ·have:=List.eq_of_mem_replicate ht
  cases this
theorem tabM.none (k:Nat):tabM (List.replicate k none):=by
 intro t ht
 have:=List.eq_of_mem_replicate ht
 cases this
def Ng:Job->Prop
 | .one a b=>okM a/\okM b
 | .list xs ys=>(∀ a∈xs,okM a)/\∀ b∈ys,okM b
theorem Uni.okM {st st':ah} {j:Job} {r:Bool} (hu:Uni st j r st'):tabM st->Ng j->tabM st':=by
 induction hu with
 | same=>exact fun h _=>h
 | occA=>exact fun h _=>h
 | occB=>exact fun h _=>h
 | clash=>exact fun h _=>h
 | nil=>exact fun h _=>h
 | bindA ha hb _ _ _=>exact fun h hj=>h.set (h.walk hb hj.2)
 | bindB ha hb _ _ _=>exact fun h hj=>h.set (h.walk ha hj.1)
 | kids ha hb _ _ _ _ ih=>exact fun h hj=>ih h ⟨n9 (h.walk ha hj.1).kids,n9 (h.walk hb hj.2).kids⟩
 | stop _ ih=>exact fun h hj=>ih h ⟨hj.1 _ (List.mem_cons_self ..),hj.2 _ (List.mem_cons_self ..)⟩
 | go _ _ ih1 ih2=>
  exact fun h hj=>ih2 (ih1 h ⟨hj.1 _ (List.mem_cons_self ..),hj.2 _ (List.mem_cons_self ..)⟩) ⟨fun a ha=>hj.1 a (List.mem_cons_of_mem _ ha),fun b hb=>hj.2 b (List.mem_cons_of_mem _ hb)⟩
theorem Res.okM {st:ah} (hs:tabM st) {j:Md} (h:Res st j):match j with
  | .one t u=>okM t->okM u
  | .list ts us=>(∀ t∈ts,okM t)->∀ u∈us,okM u:=by
 induction h with
 | @one t v us hw _ ih=>
  intro ht
  have hv:=hs.walk hw ht
  have hk:=ih (n9 hv.kids)
  cases v
  rw [Go.Proofs.YtcpgagfdeflbkaaGreatDoor.okM] at hv ⊢
  exact ⟨hv.1,hv.2.1,HU hk⟩
 | nil=>intro _ u hu; cases hu
 | cons _ _ ih1 ih2=>
  intro ht u hu
  rcases List.mem_cons.1 hu with rfl|hu
  ·exact ih1 (ht _ (List.mem_cons_self ..))
  ·exact ih2 (fun t h=>ht t (List.mem_cons_of_mem _ h)) u hu
theorem okM.kd {g:T} (h:okM g) (i:Nat):okM (kd g i):=by
 rw [Go.Proofs.YtcpgagfdeflbkaaGreatDoor.kd,List.getD_eq_getElem?_getD]
 cases e:g.kids[i]? with
 | none=>
  simp only [Option.getD_none]
  rw [zT,Go.Proofs.YtcpgagfdeflbkaaGreatDoor.okM,kq]
  exact ⟨fun e=>(by cases e),fun _=>rfl,trivial⟩
 | some u=>exact n9 h.kids u (List.mem_of_getElem? e)
theorem L0 {n:Int} (h:Sm n):okM (FT n):=by
 rw [FT,okM,kq]
 exact ⟨fun _=>h,fun _=>rfl,trivial⟩
def PB:BJ->Prop
 | .done _=>True
 | .uni a b=>Ng (.one a b)
 | .not a b=>Ng (.one a b)
theorem Nj {g:T} (h:okM g):PB (fL g):=by
 unfold fL
 split
 ·trivial
 split
 ·trivial
 split
 ·exact ⟨h.kd _,h.kd _⟩
 split
 ·exact ⟨h.kd _,h.kd _⟩
 split
 ·trivial
 split
 ·split
  ·trivial
  ·exact ⟨h.kd _,L0 (sZ _ (h.kd _).okN)⟩
 split
 ·unfold B9
  split
  ·trivial
  split
  ·trivial
  split
  ·trivial
  ·exact ⟨h.kd _,(h.kd _).kd _⟩
 split
 ·trivial
 ·trivial
theorem Blt.okM {st st':ah} {g:T} {c:Int} (hs:tabM st) (hg:okM g) (h:Blt st g c st'):tabM st':=by
 have hj:=Nj hg
 unfold Blt at h
 match hb:fL g,h,hj with
 | .done c,h,_=>exact h.2 ▸ hs
 | .uni a b,⟨r,hu,_⟩,hj=>exact hu.okM hs hj
 | .not a b,h,_=>exact h.1 ▸ hs
end
end Go.Proofs.YtcpgagfdeflbkaaGreatDoor
