/- the search of the spec in plain Lean: a step that takes a clause (l6Try). -/
import Derived.Test.YtfcbhfjomgopbaaGreatZFu25
import Derived.Test.YtfcbhfjomgopbaaGreatZFu9
import Derived.Test.YtfcbhfjomgopbaaGreatZFu18
import Derived.Test.YtfcbhfjomgopbaaGreatZFu23
import Derived.Test.YtfcbhfjomgopbaaGreatZFu3
import Derived.Test.YtfcbhfjomgopbaaGreatZFu8
namespace Go.Proofs.YtfcbhfjomgopbaaGreat
section
open Go Go.RowKit
theorem Good.grow {N:Nat} {st:aF} (h:Good N st) (k:Nat):Good (N+k) (st++List.replicate k none):=by
 have hm:∀ t,some t∈st++List.replicate k none->some t∈st:=fun t ht=>by
  rcases List.mem_append.1 ht with ht|ht
  ·exact ht
  ·have:=List.eq_of_mem_replicate ht
   cases this
 obtain ⟨r,hr⟩:=h.rk
 refine ⟨by simp [h.len],fun t ht=>kM (Nat.le_add_right ..) t (h.ok t (hm t ht)),fun t ht=>h.w t (hm t ht),r,fun n u hu=>?_⟩
 refine hr n u ?_
 rw [List.getElem?_append] at hu
 split at hu
 ·exact hu
 ·have:=List.eq_of_mem_replicate (List.mem_of_getElem? hu)
  cases this
def Ar (b:aF) (cl:C):aF:=b++List.replicate (iW cl).toNat none
def tS (cl:C):Prop:=(okU (iW cl).toNat cl.head/\wT cl.head<=1048576)/\∀ t∈cl.body,okU (iW cl).toNat t/\wT t<=1048576
def ma (chs:List Ch) (c:Ch) (cl:C) (l:List Int) (st:aF):St6:=
 ⟨cl.body.map (fun t=>(cK c.binds.length t,(chs.length:Int)))++c.rest,st,chs++(if l=[] then [] else [⟨c.goal,c.rest,l,c.binds⟩])⟩
inductive TryL (p:List C) (chs:List Ch) (c:Ch):List Int->Option St6->Prop
 | nil:TryL p chs c [] none
 | hit {i:Nat} {l:List Int} {cl:C} {st:aF}:p[i]?=some cl->Uni (Ar c.binds cl) (.one c.goal (cK c.binds.length cl.head)) true st->TryL p chs c ((i:Int)::l) (some (ma chs c cl l st))
 | miss {i:Nat} {l:List Int} {cl:C} {st:aF} {o:Option St6}:p[i]?=some cl->Uni (Ar c.binds cl) (.one c.goal (cK c.binds.length cl.head)) false st->TryL p chs c l o->TryL p chs c ((i:Int)::l) o
theorem TryL.inv {p:List C} {chs:List Ch} {c:Ch} {x:Int} {l:List Int} {o:Option St6} (h:TryL p chs c (x::l) o) :
  ∃ (i:Nat) (cl:C) (r:Bool) (st:aF),x=i/\p[i]?=some cl/\Uni (Ar c.binds cl) (.one c.goal (cK c.binds.length cl.head)) r st/\((r=true/\o=some (ma chs c cl l st)) ∨ (r=false/\TryL p chs c l o)):=by
 cases h with
 | hit h1 h2=>exact ⟨_,_,_,_,rfl,h1,h2,.inl ⟨rfl,rfl⟩⟩
 | miss h1 h2 h3=>exact ⟨_,_,_,_,rfl,h1,h2,.inr ⟨rfl,h3⟩⟩
structure kz (c:Ch):Prop where
 good:Good c.binds.length c.binds
 goal:okU c.binds.length c.goal/\wT c.goal<=1048576
 rest:∀ g∈c.rest,okU c.binds.length g.1/\wT g.1<=1048576
structure RZ (s:St6):Prop where
 good:Good s.binds.length s.binds
 goals:∀ g∈s.goals,okU s.binds.length g.1/\wT g.1<=1048576
 chs:∀ c∈s.chs,kz c
theorem rG {c:Ch} (hc:kz c) (cl:C):Good (c.binds.length+(iW cl).toNat) (Ar c.binds cl):=hc.good.grow _
theorem AS {c:Ch} {cl:C} (hc:kz c) (hcl:tS cl):okJ (c.binds.length+(iW cl).toNat) (.one c.goal (cK c.binds.length cl.head)):=by
 refine ⟨⟨kM (Nat.le_add_right ..) _ hc.goal.1,hc.goal.2⟩,?_,?_⟩
 ·have:=mX c.binds.length cl.head hcl.1.1
  rw [Nat.add_comm] at this
  exact this
 ·rw [qk]; exact hcl.1.2
theorem TryL.ex {p:List C} (hp:∀ cl∈p,tS cl) (chs:List Ch) {c:Ch} (hc:kz c):∀ l:List Int,(∀ i∈l,0<=i/\i<p.length)->∃ o,TryL p chs c l o
 | [],_=>⟨none,.nil⟩
 | i::l,hl=>by
  obtain ⟨h0,h1⟩:=hl i (List.mem_cons_self ..)
  obtain ⟨n,rfl⟩:∃ n:Nat,i=n:=⟨i.toNat,by omega⟩
  have hn:n<p.length:=by omega
  have hg:p[n]?=some p[n]:=List.getElem?_eq_getElem hn
  have hcl:=hp _ (List.getElem_mem hn)
  obtain ⟨r,st,hu⟩:=Hc _ _ (rG hc p[n]) (Nat.le_refl _) _ (AS hc hcl)
  cases r with
  | true=>exact ⟨_,.hit hg hu⟩
  | false=>
   obtain ⟨o,ho⟩:=TryL.ex hp chs hc l fun i hi=>hl i (List.mem_cons_of_mem _ hi)
   exact ⟨o,.miss hg hu ho⟩
theorem TryL.ok {p:List C} (hp:∀ cl∈p,tS cl) {chs:List Ch} (hh:∀ c∈chs,kz c) {c:Ch} (hc:kz c) {l:List Int} {o:Option St6} (h:TryL p chs c l o):∀ s,o=some s->RZ s:=by
 induction h with
 | nil=>intro s h; cases h
 | miss _ _ _ ih=>exact ih
 | @hit i l cl st hi hu=>
  intro s hs
  simp only [Option.some.injEq] at hs
  subst hs
  have hcl:=hp _ (List.mem_of_getElem? hi)
  obtain ⟨hg,_⟩:=hu.good (rG hc cl) (AS hc hcl)
  have hlen:=hg.len
  refine ⟨by rw [ma,hlen]; exact hg,fun g hm=>?_,fun d hd=>?_⟩
  ·rw [ma] at hm ⊢
   simp only at hm ⊢
   rw [hlen]
   rcases List.mem_append.1 hm with hm|hm
   ·obtain ⟨t,ht,rfl⟩:=List.mem_map.1 hm
    obtain ⟨q1,q2⟩:=hcl.2 t ht
    have:=mX c.binds.length t q1
    rw [Nat.add_comm] at this
    exact ⟨this,by rw [qk]; exact q2⟩
   ·exact ⟨kM (Nat.le_add_right ..) _ (hc.rest g hm).1,(hc.rest g hm).2⟩
  ·rw [ma] at hd
   rcases List.mem_append.1 hd with hd|hd
   ·exact hh d hd
   ·split at hd
    ·cases hd
    ·rw [List.mem_singleton] at hd
     subst hd
     exact ⟨hc.good,hc.goal,hc.rest⟩
end
section
open Go Go.RowKit
structure Sp where
 goal:T
 clause:Int
 body:Int
structure Se where
 st:St6
 steps:List Sp
 saved:List (List Sp)
inductive FirstL (p:List C) (chs:List Ch) (c:Ch):List Int->Option (St6 × Int × List Int)->Prop
 | nil:FirstL p chs c [] none
 | hit {i:Int} {l:List Int} {s:St6}:TryL p chs c [i] (some s)->FirstL p chs c (i::l) (some (s,i,l))
 | miss {i:Int} {l:List Int} {o:Option (St6 × Int × List Int)}:TryL p chs c [i] none->FirstL p chs c l o->FirstL p chs c (i::l) o
theorem FirstL.ex {p:List C} (hp:∀ cl∈p,tS cl) (chs:List Ch) {c:Ch} (hc:kz c):∀ l:List Int,(∀ i∈l,0<=i/\i<p.length)->∃ o,FirstL p chs c l o
 | [],_=>⟨none,.nil⟩
 | i::l,hl=>by
  obtain ⟨o,ho⟩:=TryL.ex hp chs hc [i] fun j hj=>by
   rw [List.mem_singleton] at hj
   subst hj
   exact hl j (List.mem_cons_self ..)
  cases o with
  | some s=>exact ⟨_,.hit ho⟩
  | none=>
   obtain ⟨o,h2⟩:=FirstL.ex hp chs hc l fun j hj=>hl j (List.mem_cons_of_mem _ hj)
   exact ⟨o,.miss ho h2⟩
theorem FirstL.ok {p:List C} (hp:∀ cl∈p,tS cl) {chs:List Ch} (hh:∀ c∈chs,kz c) {c:Ch} (hc:kz c) {l:List Int} {o:Option (St6 × Int × List Int)} (h:FirstL p chs c l o) :
  ∀ s i r,o=some (s,i,r)->RZ s/\i∈l/\(∀ j∈r,j∈l):=by
 induction h with
 | nil=>intro s i r h; cases h
 | miss _ _ ih=>
  intro s i r h
  obtain ⟨h1,h2,h3⟩:=ih s i r h
  exact ⟨h1,List.mem_cons_of_mem _ h2,fun j hj=>List.mem_cons_of_mem _ (h3 j hj)⟩
 | hit ht=>
  intro s i r h
  simp only [Option.some.injEq,Prod.mk.injEq] at h
  obtain ⟨rfl,rfl,rfl⟩:=h
  exact ⟨ht.ok hp hh hc _ rfl,List.mem_cons_self ..,fun j hj=>List.mem_cons_of_mem _ hj⟩
def iM (p:List C) (s:Se) (c:Ch) (u:St6) (i:Int) (l:List Int):Se:=
 ⟨⟨u.goals,u.binds,s.st.chs++(if l=[] then [] else [⟨c.goal,c.rest,l,c.binds⟩])⟩,s.steps++[⟨c.goal,i,((p[i.toNat]?).elim 0 fun cl=>(cl.body.length:Int))⟩],s.saved++(if l=[] then [] else [s.steps])⟩
inductive TakeR (p:List C) (s:Se) (c:Ch):Option Se->Prop
 | no:FirstL p s.st.chs c c.left none->TakeR p s c none
 | yes {u:St6} {i:Int} {l:List Int}:FirstL p s.st.chs c c.left (some (u,i,l))->TakeR p s c (some (iM p s c u i l))
structure mH (n:Nat) (s:Se):Prop where
 st:RZ s.st
 left:∀ c∈s.st.chs,∀ i∈c.left,0<=i/\i<n
 len:s.saved.length=s.st.chs.length
theorem TakeR.ex {p:List C} (hp:∀ cl∈p,tS cl) (s:Se) {c:Ch} (hc:kz c) (hl:∀ i∈c.left,0<=i/\i<p.length):∃ o,TakeR p s c o:=by
 obtain ⟨o,ho⟩:=FirstL.ex hp s.st.chs hc c.left hl
 cases o with
 | none=>exact ⟨_,.no ho⟩
 | some x=>exact ⟨_,.yes (u:=x.1) (i:=x.2.1) (l:=x.2.2) ho⟩
theorem TakeR.ok {p:List C} (hp:∀ cl∈p,tS cl) {s:Se} (hh:∀ c∈s.st.chs,kz c) (hf:∀ c∈s.st.chs,∀ i∈c.left,0<=i/\i<p.length) (hn:s.saved.length=s.st.chs.length) {c:Ch} (hc:kz c)
  (hl:∀ i∈c.left,0<=i/\i<p.length) {o:Option Se} (h:TakeR p s c o):∀ s',o=some s'->mH p.length s':=by
 intro s' hs
 cases h with
 | no _=>cases hs
 | @yes u i l hF=>
  simp only [Option.some.injEq] at hs
  subst hs
  obtain ⟨h1,h2,h3⟩:=hF.ok hp hh hc u i l rfl
  refine ⟨⟨h1.good,h1.goals,fun d hd=>?_⟩,fun d hd j hj=>?_,?_⟩
  ·rcases List.mem_append.1 hd with hd|hd
   ·exact hh d hd
   ·split at hd
    ·cases hd
    ·rw [List.mem_singleton] at hd
     subst hd
     exact ⟨hc.good,hc.goal,hc.rest⟩
  ·rcases List.mem_append.1 hd with hd|hd
   ·exact hf d hd j hj
   ·split at hd
    ·cases hd
    ·rw [List.mem_singleton] at hd
     subst hd
     exact hl j (h3 j hj)
  ·simp only [iM,List.length_append]
   split <;> simp [hn]
inductive BackR (p:List C):List Ch->List (List Sp)->Option Se->Prop
 | nil {ss:List (List Sp)}:BackR p [] ss none
 | hit {cs:List Ch} {ss:List (List Sp)} {c:Ch} {t:List Sp} {s:Se}:TakeR p ⟨⟨[],[],cs⟩,t,ss⟩ c (some s)->BackR p (cs++[c]) (ss++[t]) (some s)
 | miss {cs:List Ch} {ss:List (List Sp)} {c:Ch} {t:List Sp} {o:Option Se}:TakeR p ⟨⟨[],[],cs⟩,t,ss⟩ c none->BackR p cs ss o->BackR p (cs++[c]) (ss++[t]) o
theorem BackR.ex {p:List C} (hp:∀ cl∈p,tS cl):∀ (n:Nat) (cs:List Ch) (ss:List (List Sp)),cs.length=n->ss.length=n->(∀ c∈cs,kz c)->(∀ c∈cs,∀ i∈c.left,0<=i/\i<p.length)->
  ∃ o,BackR p cs ss o/\∀ s,o=some s->mH p.length s:=by
 intro n
 induction n with
 | zero=>
  intro cs ss h _ _ _
  have:=List.eq_nil_of_length_eq_zero h
  subst this
  exact ⟨none,.nil,fun s h=>by cases h⟩
 | succ n ih=>
  intro cs ss h1 h2 hh hf
  obtain ⟨cs,c,rfl⟩:=List.eq_nil_or_concat cs |>.resolve_left fun e=>by rw [e] at h1; cases h1
  obtain ⟨ss,t,rfl⟩:=List.eq_nil_or_concat ss |>.resolve_left fun e=>by rw [e] at h2; cases h2
  simp only [List.concat_eq_append,List.length_append,List.length_singleton,Nat.add_right_cancel_iff] at h1 h2 hh hf ⊢
  have hc:=hh c (by simp)
  have hl:=hf c (by simp)
  have hh':∀ c∈cs,kz c:=fun d hd=>hh d (List.mem_append_left _ hd)
  have hf':∀ c∈cs,∀ i∈c.left,0<=i/\i<p.length:=fun d hd=>hf d (List.mem_append_left _ hd)
  obtain ⟨o,ho⟩:=TakeR.ex hp ⟨⟨[],[],cs⟩,t,ss⟩ hc hl
  cases o with
  | some s=>exact ⟨_,.hit ho,fun s' e=>ho.ok hp hh' hf' (by simp only; omega) hc hl s' e⟩
  | none=>
   obtain ⟨o,h3,h4⟩:=ih cs ss h1 h2 hh' hf'
   exact ⟨o,.miss ho h3,h4⟩
end
section
open Go Go.RowKit
def C3 (p:List C) (g:T):List Int:=lX (fun c=>Hg (iG c.head) (iG g)) p 0
theorem GX (p:List C) (g:T):∀ i∈C3 p g,0<=i/\i<p.length:=by
 intro i hi
 obtain ⟨j,h0,rfl,hj,_⟩:=JD _ p 0 i hi
 omega
inductive OneR (p:List C) (s:Se):Se->Int->Prop
 | big {g:T × Int} {rest:List (T × Int)} {u:T}:s.st.goals=g::rest->Res s.st.binds (.one g.1 u)->(cI u=false ∨ jT u=true)->OneR p s s 0
 | took {g:T × Int} {rest:List (T × Int)} {u:T} {s':Se}:s.st.goals=g::rest->Res s.st.binds (.one g.1 u)->cI u=true->jT u=false->cO u=false->
   TakeR p s ⟨u,rest,C3 p u,s.st.binds⟩ (some s')->OneR p s s' (-1)
 | stuck {g:T × Int} {rest:List (T × Int)} {u:T}:s.st.goals=g::rest->Res s.st.binds (.one g.1 u)->cI u=true->jT u=false->cO u=false->
   TakeR p s ⟨u,rest,C3 p u,s.st.binds⟩ none->OneR p s s (-2)
 | fail {g:T × Int} {rest:List (T × Int)} {u:T} {st:aF}:s.st.goals=g::rest->Res s.st.binds (.one g.1 u)->cI u=true->jT u=false->cO u=true->
   Blt s.st.binds u 1 st->OneR p s s (-2)
 | err {g:T × Int} {rest:List (T × Int)} {u:T} {st:aF} {c:Int}:s.st.goals=g::rest->Res s.st.binds (.one g.1 u)->cI u=true->jT u=false->cO u=true->
   Blt s.st.binds u c st->c≠0->c≠1->OneR p s s 0
 | solved {g:T × Int} {rest:List (T × Int)} {u:T} {st:aF}:s.st.goals=g::rest->Res s.st.binds (.one g.1 u)->cI u=true->jT u=false->cO u=true->
   Blt s.st.binds u 0 st->OneR p s ⟨⟨rest,st,s.st.chs⟩,s.steps++[⟨u,-1,0⟩],s.saved⟩ (-1)
theorem OneR.ex {p:List C} (hp:∀ cl∈p,tS cl) {s:Se} (hs:mH p.length s) (hg:s.st.goals≠[]):∃ s' k,OneR p s s' k/\mH p.length s':=by
 obtain ⟨g,rest,hgr⟩:∃ g rest,s.st.goals=g::rest:=by
  cases h:s.st.goals with
  | nil=>exact absurd h hg
  | cons g rest=>exact ⟨g,rest,rfl⟩
 have hgo:=hs.st.goals
 rw [hgr] at hgo
 have hg1:=hgo g (List.mem_cons_self ..)
 obtain ⟨us,hus⟩:=BW hs.st.good [g.1] (by simp only [dM]; exact ⟨hg1.1,trivial⟩)
 obtain ⟨u,hu⟩:∃ u,Res s.st.binds (.one g.1 u):=by
  cases hus with
  | cons h _=>exact ⟨_,h⟩
 have hou:okU s.st.binds.length u:=mi hs.st.good hu hg1.1
 cases hsm:cI u with
 | false=>exact ⟨_,_,.big hgr hu (.inl hsm),hs⟩
 | true=>
  have hw:=mB hsm hou
  cases hc:jT u with
  | true=>exact ⟨_,_,.big hgr hu (.inr hc),hs⟩
  | false=>
   cases hb:cO u with
   | false=>
    have hch:kz ⟨u,rest,C3 p u,s.st.binds⟩:=⟨hs.st.good,⟨hou,by simp only; omega⟩,fun x hx=>hgo x (List.mem_cons_of_mem _ hx)⟩
    obtain ⟨o,ho⟩:=TakeR.ex hp s hch (GX p u)
    cases o with
    | none=>exact ⟨_,_,.stuck hgr hu hsm hc hb ho,hs⟩
    | some s'=>exact ⟨_,_,.took hgr hu hsm hc hb ho,ho.ok hp hs.st.chs hs.left hs.len hch (GX p u) _ rfl⟩
   | true=>
    obtain ⟨c,st,hB⟩:=Blt.ex hs.st.good hb ⟨hou,by omega⟩
    by_cases h1:c=1
    ·subst h1
     exact ⟨_,_,.fail hgr hu hsm hc hb hB,hs⟩
    by_cases h0:c=0
    ·subst h0
     refine ⟨_,_,.solved hgr hu hsm hc hb hB,?_⟩
     have hgd:=hB.good hs.st.good hb ⟨hou,by omega⟩
     have hl:=hgd.len
     exact ⟨⟨by simp only [hl]; exact hgd,fun x hx=>by simp only [hl]; exact hgo x (List.mem_cons_of_mem _ hx),hs.st.chs⟩,hs.left,hs.len⟩
    ·exact ⟨_,_,.err hgr hu hsm hc hb hB h0 h1,hs⟩
end
section
open Go Go.RowKit
inductive Srch (p:List C):Nat->Se->Option Se->Prop
 | done {n:Nat} {s:Se}:s.st.goals=[]->Srch p n s (some s)
 | out {s:Se}:s.st.goals≠[]->Srch p 0 s none
 | halt {n:Nat} {s s':Se}:s.st.goals≠[]->OneR p s s' 0->Srch p (n+1) s none
 | step {n:Nat} {s s':Se} {o:Option Se}:s.st.goals≠[]->OneR p s s' (-1)->Srch p n s' o->Srch p (n+1) s o
 | stop {n:Nat} {s s':Se}:s.st.goals≠[]->OneR p s s' (-2)->BackR p s'.st.chs s'.saved none->Srch p (n+1) s none
 | back {n:Nat} {s s' t:Se} {o:Option Se}:s.st.goals≠[]->OneR p s s' (-2)->BackR p s'.st.chs s'.saved (some t)->Srch p n t o->Srch p (n+1) s o
theorem OneR.code {p:List C} {s s':Se} {k:Int} (h:OneR p s s' k):k=0 ∨ k=-1 ∨ k=-2:=by
 cases h <;> simp
theorem Srch.ex {p:List C} (hp:∀ cl∈p,tS cl):∀ (n:Nat) (s:Se),mH p.length s->∃ o,Srch p n s o/\∀ t,o=some t->mH p.length t:=by
 intro n
 induction n with
 | zero=>
  intro s hs
  by_cases hg:s.st.goals=[]
  ·exact ⟨_,.done hg,fun t h=>by rw [Option.some.injEq] at h; subst h; exact hs⟩
  ·exact ⟨_,.out hg,fun t h=>by cases h⟩
 | succ n ih=>
  intro s hs
  by_cases hg:s.st.goals=[]
  ·exact ⟨_,.done hg,fun t h=>by rw [Option.some.injEq] at h; subst h; exact hs⟩
  obtain ⟨s',k,h1,h2⟩:=OneR.ex hp hs hg
  rcases h1.code with rfl|rfl|rfl
  ·exact ⟨_,.halt hg h1,fun t h=>by cases h⟩
  ·obtain ⟨o,h3,h4⟩:=ih s' h2
   exact ⟨o,.step hg h1 h3,h4⟩
  ·obtain ⟨o,h3,h4⟩:=BackR.ex hp _ s'.st.chs s'.saved rfl h2.len h2.st.chs h2.left
   cases o with
   | none=>exact ⟨_,.stop hg h1 h3,fun t h=>by cases h⟩
   | some t=>
    obtain ⟨o,h5,h6⟩:=ih t (h4 t rfl)
    exact ⟨o,.back hg h1 h3 h5,h6⟩
def gd (t:T):Se:=⟨⟨[(cK 0 t,0)],List.replicate 26 none,[]⟩,[],[]⟩
theorem FT {t:T} (ho:okU 26 t) (hw:wT t<=1048576) (n:Nat):mH n (gd t):=by
 refine ⟨⟨?_,fun g hg=>?_,fun c hc=>(by cases hc)⟩,fun c hc=>(by cases hc),rfl⟩
 ·have:=(⟨by simp,fun t ht=>by simp at ht,fun t ht=>by simp at ht,fun n=>n,fun n u hu=>by
   have:=List.mem_of_getElem? hu
   simp at this⟩:Good 26 (List.replicate 26 none))
  simp only [gd,List.length_replicate]
  exact this
 ·simp only [gd,List.mem_singleton] at hg
  subst hg
  simp only [gd,List.length_replicate]
  have:=mX 0 t ho
  exact ⟨this,by rw [qk]; exact hw⟩
end
section
open Go Go.RowKit
def mV:List Sp->Int
 | []=>1
 | x::xs=>x.body - 1+mV xs
theorem zC:∀ (a b:List Sp),mV (a++b)=mV a+mV b - 1
 | [],b=>by rw [List.nil_append,mV]; omega
 | x::a,b=>by rw [List.cons_append,mV,mV,zC a b]; omega
theorem yt (a:List Sp) (x:Sp):mV (a++[x])=mV a+x.body - 1:=by
 rw [zC]
 simp only [mV]
 omega
def openP (l:List Sp):Prop:=∀ a b,l=a++b->b≠[]->0<mV a
theorem openP.nil:openP []:=by
 intro a b h hb
 have:=congrArg List.length h
 cases b with
 | nil=>exact absurd rfl hb
 | cons y b=>simp at this
theorem openP.snoc {l:List Sp} (h:openP l) (hp:0<mV l) (x:Sp):openP (l++[x]):=by
 intro a b e hb
 obtain ⟨b',y,rfl⟩:=(List.eq_nil_or_concat b).resolve_left hb
 rw [List.concat_eq_append,<- List.append_assoc] at e
 have e2:=List.append_inj_left' e (by simp)
 subst e2
 cases b' with
 | nil=>rw [List.append_nil] at hp; exact hp
 | cons z b'=>exact h a (z::b') rfl (by simp)
structure okP (s:Se):Prop where
 goals:(s.st.goals.length:Int)=mV s.steps
 openP:openP s.steps
 saved:∀ i (h:i<s.st.chs.length) (h':i<s.saved.length),(s.st.chs[i].rest.length:Int)+1=mV s.saved[i]/\Go.Proofs.YtfcbhfjomgopbaaGreat.openP s.saved[i]
theorem tX (t:T):okP (gd t):=⟨rfl,openP.nil,fun i h=>by simp [gd] at h⟩
def M0 (p:List C) (i:Int):Int:=(p[i.toNat]?).elim 0 fun cl=>(cl.body.length:Int)
theorem TryL.goals {p:List C} {chs:List Ch} {c:Ch} {i:Int} {s:St6} (h:TryL p chs c [i] (some s)):(s.goals.length:Int)=M0 p i+c.rest.length:=by
 cases h with
 | hit hi _=>simp [ma,M0,hi]
 | miss _ _ h=>cases h
theorem FirstL.goals {p:List C} {chs:List Ch} {c:Ch} {l:List Int} {o:Option (St6 × Int × List Int)} (h:FirstL p chs c l o):∀ s i r,o=some (s,i,r)->(s.goals.length:Int)=M0 p i+c.rest.length:=by
 induction h with
 | nil=>intro s i r h; cases h
 | miss _ _ ih=>exact ih
 | hit ht=>
  intro s i r h
  simp only [Option.some.injEq,Prod.mk.injEq] at h
  obtain ⟨rfl,rfl,rfl⟩:=h
  exact ht.goals
theorem TakeR.okP {p:List C} {s s':Se} {c:Ch} (h:TakeR p s c (some s')) (hn:s.saved.length=s.st.chs.length) (hr:(c.rest.length:Int)+1=mV s.steps) (ho:openP s.steps)
  (hs:∀ i (h:i<s.st.chs.length) (h':i<s.saved.length),(s.st.chs[i].rest.length:Int)+1=mV s.saved[i]/\Go.Proofs.YtfcbhfjomgopbaaGreat.openP s.saved[i]):okP s':=by
 cases h with
 | @yes u i l hF=>
  have hg:=hF.goals u i l rfl
  refine ⟨?_,?_,?_⟩
  ·simp only [iM,yt]
   rw [hg,M0]
   omega
  ·exact ho.snoc (by omega) _
  ·intro k h1 h2
   simp only [iM] at h1 h2 ⊢
   by_cases hl:l=[]
   ·subst hl
    simp only [if_pos,List.append_nil] at h1 h2 ⊢
    exact hs k h1 h2
   ·simp only [if_neg hl,List.length_append,List.length_singleton] at h1 h2 ⊢
    by_cases hk:k<s.st.chs.length
    ·rw [List.getElem_append_left hk,List.getElem_append_left (by omega)]
     exact hs k hk (by omega)
    ·have hk1:k=s.st.chs.length:=by omega
     subst hk1
     rw [List.getElem_append_right (Nat.le_refl _),List.getElem_append_right (by omega)]
     simp only [hn,Nat.sub_self,List.getElem_cons_zero]
     exact ⟨hr,ho⟩
end
section
open Go Go.RowKit
def okB (cs:List Ch) (ss:List (List Sp)):Prop:=∀ i (h:i<cs.length) (h':i<ss.length),(cs[i].rest.length:Int)+1=mV ss[i]/\openP ss[i]
theorem okB.last {cs:List Ch} {ss:List (List Sp)} {c:Ch} {t:List Sp} (h:okB (cs++[c]) (ss++[t])) (hl:cs.length=ss.length):okB cs ss/\(c.rest.length:Int)+1=mV t/\openP t:=by
 constructor
 ·intro i h1 h2
  have:=h i (by simp; omega) (by simp; omega)
  rw [List.getElem_append_left h1,List.getElem_append_left h2] at this
  exact this
 ·have:=h cs.length (by simp) (by simp [hl])
  rw [List.getElem_append_right (Nat.le_refl _),List.getElem_append_right (by omega)] at this
  simp only [hl,Nat.sub_self,List.getElem_cons_zero] at this
  exact this
theorem BackR.okP {p:List C} {cs:List Ch} {ss:List (List Sp)} {o:Option Se} (h:BackR p cs ss o):cs.length=ss.length->okB cs ss->∀ s,o=some s->okP s:=by
 induction h with
 | nil=>intro _ _ s h; cases h
 | hit ht=>
  intro hl hb s h
  simp only [List.length_append,List.length_singleton,Nat.add_right_cancel_iff] at hl
  obtain ⟨h1,h2,h3⟩:=hb.last hl
  rw [Option.some.injEq] at h
  subst h
  exact ht.okP hl.symm h2 h3 h1
 | miss _ _ ih=>
  intro hl hb
  simp only [List.length_append,List.length_singleton,Nat.add_right_cancel_iff] at hl
  exact ih hl (hb.last hl).1
theorem OneR.okP {p:List C} {s s':Se} {k:Int} (h:OneR p s s' k) (hn:s.saved.length=s.st.chs.length) (ho:okP s):okP s':=by
 have hgl:=ho.goals
 cases h with
 | big=>exact ho
 | stuck=>exact ho
 | fail=>exact ho
 | err=>exact ho
 | took hg _ _ _ _ ht=>
  rw [hg] at hgl
  refine ht.okP hn ?_ ho.openP ho.saved
  simp only [List.length_cons] at hgl ⊢
  omega
 | solved hg _ _ _ _ _=>
  rw [hg] at hgl
  simp only [List.length_cons] at hgl
  refine ⟨?_,ho.openP.snoc (by omega) _,ho.saved⟩
  simp only [yt]
  omega
theorem OneR.ok {p:List C} (hp:∀ cl∈p,tS cl) {s s':Se} {k:Int} (h:OneR p s s' k) (hs:mH p.length s):mH p.length s':=by
 have hgo:=hs.st.goals
 cases h with
 | big=>exact hs
 | stuck=>exact hs
 | fail=>exact hs
 | err=>exact hs
 | took hg hu hsm _ _ ht=>
  rw [hg] at hgo
  have hou:=mi hs.st.good hu (hgo _ (List.mem_cons_self ..)).1
  have hw:=mB hsm hou
  exact ht.ok hp hs.st.chs hs.left hs.len ⟨hs.st.good,⟨hou,by simp only; omega⟩,fun x hx=>hgo x (List.mem_cons_of_mem _ hx)⟩ (GX p _) _ rfl
 | solved hg hu hsm _ hb hB=>
  rw [hg] at hgo
  have hou:=mi hs.st.good hu (hgo _ (List.mem_cons_self ..)).1
  have hw:=mB hsm hou
  have hgd:=hB.good hs.st.good hb ⟨hou,by omega⟩
  have hl:=hgd.len
  exact ⟨⟨by simp only [hl]; exact hgd,fun x hx=>by simp only [hl]; exact hgo x (List.mem_cons_of_mem _ hx),hs.st.chs⟩,hs.left,hs.len⟩
theorem BackR.ok {p:List C} (hp:∀ cl∈p,tS cl) {cs:List Ch} {ss:List (List Sp)} {o:Option Se} (h:BackR p cs ss o):cs.length=ss.length->(∀ c∈cs,kz c)->(∀ c∈cs,∀ i∈c.left,0<=i/\i<p.length)->∀ s,o=some s->mH p.length s:=by
 induction h with
 | nil=>intro _ _ _ s h; cases h
 | hit ht=>
  intro hl hh hf s h
  simp only [List.length_append,List.length_singleton,Nat.add_right_cancel_iff] at hl
  exact ht.ok hp (fun d hd=>hh d (List.mem_append_left _ hd)) (fun d hd=>hf d (List.mem_append_left _ hd)) hl.symm (hh _ (by simp)) (hf _ (by simp)) s h
 | miss _ _ ih=>
  intro hl hh hf
  simp only [List.length_append,List.length_singleton,Nat.add_right_cancel_iff] at hl
  exact ih hl (fun d hd=>hh d (List.mem_append_left _ hd)) (fun d hd=>hf d (List.mem_append_left _ hd))
theorem Srch.ok {p:List C} (hp:∀ cl∈p,tS cl) {n:Nat} {s:Se} {o:Option Se} (h:Srch p n s o):mH p.length s->okP s->∀ t,o=some t->mH p.length t/\okP t/\t.st.goals=[]:=by
 induction h with
 | done hg=>intro h1 h2 t h; rw [Option.some.injEq] at h; subst h; exact ⟨h1,h2,hg⟩
 | out=>intro _ _ t h; cases h
 | halt=>intro _ _ t h; cases h
 | stop=>intro _ _ t h; cases h
 | step hg h1 _ ih=>exact fun hs ho=>ih (h1.ok hp hs) (h1.okP hs.len ho)
 | back hg h1 h2 _ ih=>
  intro hs ho
  have hs':=h1.ok hp hs
  have ho':=h1.okP hs.len ho
  exact ih (h2.ok hp hs'.len.symm hs'.st.chs hs'.left _ rfl) (h2.okP hs'.len.symm ho'.saved _ rfl)
end
section
open Go Go.RowKit
mutual
def okM:T->Prop
 | .mk k n s ks=>(k=2->-999<=n/\n<=999)/\(k≠3->s=emptyB)/\nW ks
def nW:List T->Prop
 | []=>True
 | t::ts=>okM t/\nW ts
end
theorem rf:∀ {ts:List T},nW ts->∀ t∈ts,okM t
 | t::ts,h,x,hx=>by
  rw [nW] at h
  rcases List.mem_cons.1 hx with rfl|hx
  ·exact h.1
  ·exact rf h.2 x hx
theorem Nk:∀ {ts:List T},(∀ t∈ts,okM t)->nW ts
 | [],_=>by rw [nW]; trivial
 | t::ts,h=>by rw [nW]; exact ⟨h t (List.mem_cons_self ..),Nk fun u hu=>h u (List.mem_cons_of_mem _ hu)⟩
theorem okM.kids {t:T} (h:okM t):nW t.kids:=by cases t; rw [okM] at h; exact h.2.2
mutual
theorem okM.okN:∀ {t:T},okM t->okN t
 | .mk k n s ks,h=>by
  rw [okM] at h
  rw [Go.Proofs.YtfcbhfjomgopbaaGreat.okN]
  exact ⟨h.1,Iu h.2.2⟩
theorem Iu:∀ {ts:List T},nW ts->yy ts
 | [],_=>by rw [yy]; trivial
 | t::ts,h=>by
  rw [nW] at h
  rw [yy]
  exact ⟨okM.okN h.1,Iu h.2⟩
end
mutual
theorem FA:∀ (t:T) (d:Int),eZ t d=true->okM t
 | .mk k n s ks,d,h=>by
  rw [eZ] at h
  split at h
  ·cases h
  rw [Bool.and_eq_true] at h
  obtain ⟨ho,hk⟩:=h
  rw [okM]
  have h2:k=2->(-999<=n/\n<=999)/\s=emptyB:=by
   intro e
   subst e
   have ho2:eM (.mk 2 n s ks)=(decide (-999<=n) && (decide (n<=999) && (decide (s=emptyB) && decide (ks.length=0)))):=by
    rw [eM]; exact (if_neg (show ¬ (2:Int)=1 by decide)).trans (if_pos rfl)
   rw [ho2,Bool.and_eq_true,Bool.and_eq_true,Bool.and_eq_true] at ho
   exact ⟨⟨of_decide_eq_true ho.1,of_decide_eq_true ho.2.1⟩,of_decide_eq_true ho.2.2.1⟩
  refine ⟨fun e=>(h2 e).1,fun e=>?_,Cm ks _ hk⟩
  by_cases e2:k=2
  ·exact (h2 e2).2
  ·have ho:(if k=1 then decide (0<=n) && (decide (n<=25) && (decide (s=emptyB) && decide (ks.length=0))) else if k=2 then decide (-999<=n) && (decide (n<=999) && (decide (s=emptyB) && decide (ks.length=0))) else if k=3 then decide (n=0) && (md s && decide (ks.length<=4)) else false)=true:=ho
   rw [if_neg e2,if_neg e] at ho
   split at ho
   ·simp only [Bool.and_eq_true,decide_eq_true_eq] at ho
    exact ho.2.2.1
   ·cases ho
theorem Cm:∀ (ts:List T) (d:Int),eV ts d=true->nW ts
 | [],_,_=>by rw [nW]; trivial
 | t::ts,d,h=>by
  rw [eV,Bool.and_eq_true] at h
  rw [nW]
  exact ⟨FA t d h.1,Cm ts d h.2⟩
end
theorem rr {t:T} (h:dg t=true):okM t:=FA t 30 (qu h)
mutual
theorem rq (m:Int):∀ t:T,okM t->okM (cK m t)
 | .mk k n s ks,h=>by
  rw [okM] at h
  rw [cK,okM]
  refine ⟨fun e=>?_,h.2.1,Ci m ks h.2.2⟩
  rw [if_neg (by omega)]
  exact h.1 e
theorem Ci (m:Int):∀ ts:List T,nW ts->nW (fS m ts)
 | [],_=>by rw [fS,nW]; trivial
 | t::ts,h=>by
  rw [nW] at h
  rw [fS,nW]
  exact ⟨rq m t h.1,Ci m ts h.2⟩
end
def tabM (st:aF):Prop:=∀ t,some t∈st->okM t
theorem tabM.set {st:aF} (h:tabM st) {n:Nat} {t:T} (ht:okM t):tabM (st.set n (some t)):=by
 intro u hu
 rcases List.mem_or_eq_of_mem_set hu with hu|hu
 ·exact h u hu
 ·rw [Option.some.injEq] at hu
  subst hu
  exact ht
theorem tabM.look {st:aF} (h:tabM st) {t u:T} (hl:look st t=some u):okM u:=h u (List.mem_of_getElem? (cT.1 hl).2)
theorem tabM.walk {st:aF} (h:tabM st) {t v:T} (hw:cU st t v) (ht:okM t):okM v:=by
 induction hw with
 | stop=>exact ht
 | step hl _ ih=>exact ih (h.look hl)
theorem tabM.grow {st:aF} (h:tabM st) (k:Nat):tabM (st++List.replicate k none):=by
 intro t ht
 rcases List.mem_append.1 ht with ht|ht
 ·exact h t ht
 ·have:=List.eq_of_mem_replicate ht
  cases this
theorem tabM.none (k:Nat):tabM (List.replicate k none):=by
 intro t ht
 have:=List.eq_of_mem_replicate ht
 cases this
def SN:Job->Prop
 | .one a b=>okM a/\okM b
 | .list xs ys=>(∀ a∈xs,okM a)/\∀ b∈ys,okM b
theorem Uni.okM {st st':aF} {j:Job} {r:Bool} (hu:Uni st j r st'):tabM st->SN j->tabM st':=by
 induction hu with
 | same=>exact fun h _=>h
 | occA=>exact fun h _=>h
 | occB=>exact fun h _=>h
 | clash=>exact fun h _=>h
 | nil=>exact fun h _=>h
 | bindA ha hb _ _ _=>exact fun h hj=>h.set (h.walk hb hj.2)
 | bindB ha hb _ _ _=>exact fun h hj=>h.set (h.walk ha hj.1)
 | kids ha hb _ _ _ _ ih=>exact fun h hj=>ih h ⟨rf (h.walk ha hj.1).kids,rf (h.walk hb hj.2).kids⟩
 | stop _ ih=>exact fun h hj=>ih h ⟨hj.1 _ (List.mem_cons_self ..),hj.2 _ (List.mem_cons_self ..)⟩
 | go _ _ ih1 ih2=>
  exact fun h hj=>ih2 (ih1 h ⟨hj.1 _ (List.mem_cons_self ..),hj.2 _ (List.mem_cons_self ..)⟩) ⟨fun a ha=>hj.1 a (List.mem_cons_of_mem _ ha),fun b hb=>hj.2 b (List.mem_cons_of_mem _ hb)⟩
theorem Res.okM {st:aF} (hs:tabM st) {j:N0} (h:Res st j):match j with
  | .one t u=>okM t->okM u
  | .list ts us=>(∀ t∈ts,okM t)->∀ u∈us,okM u:=by
 induction h with
 | @one t v us hw _ ih=>
  intro ht
  have hv:=hs.walk hw ht
  have hk:=ih (rf hv.kids)
  cases v
  rw [Go.Proofs.YtfcbhfjomgopbaaGreat.okM] at hv ⊢
  exact ⟨hv.1,hv.2.1,Nk hk⟩
 | nil=>intro _ u hu; cases hu
 | cons _ _ ih1 ih2=>
  intro ht u hu
  rcases List.mem_cons.1 hu with rfl|hu
  ·exact ih1 (ht _ (List.mem_cons_self ..))
  ·exact ih2 (fun t h=>ht t (List.mem_cons_of_mem _ h)) u hu
theorem okM.kd {g:T} (h:okM g) (i:Nat):okM (kd g i):=by
 rw [Go.Proofs.YtfcbhfjomgopbaaGreat.kd,List.getD_eq_getElem?_getD]
 cases e:g.kids[i]? with
 | none=>
  simp only [Option.getD_none]
  rw [zT,Go.Proofs.YtfcbhfjomgopbaaGreat.okM,nW]
  exact ⟨fun e=>(by cases e),fun _=>rfl,trivial⟩
 | some u=>exact rf h.kids u (List.mem_of_getElem? e)
theorem Rr {n:Int} (h:Sm n):okM (DE n):=by
 rw [DE,okM,nW]
 exact ⟨fun _=>h,fun _=>rfl,trivial⟩
def Up:BJ->Prop
 | .done _=>True
 | .uni a b=>SN (.one a b)
 | .not a b=>SN (.one a b)
theorem RV {g:T} (h:okM g):Up (eP g):=by
 unfold eP
 split
 ·trivial
 split
 ·trivial
 split
 ·exact ⟨h.kd _,h.kd _⟩
 split
 ·exact ⟨h.kd _,h.kd _⟩
 split
 ·trivial
 split
 ·split
  ·trivial
  ·exact ⟨h.kd _,Rr (lh _ (h.kd _).okN)⟩
 split
 ·unfold ri
  split
  ·trivial
  split
  ·trivial
  split
  ·trivial
  ·exact ⟨h.kd _,(h.kd _).kd _⟩
 split
 ·trivial
 ·trivial
theorem Blt.okM {st st':aF} {g:T} {c:Int} (hs:tabM st) (hg:okM g) (h:Blt st g c st'):tabM st':=by
 have hj:=RV hg
 unfold Blt at h
 match hb:eP g,h,hj with
 | .done c,h,_=>exact h.2 ▸ hs
 | .uni a b,⟨r,hu,_⟩,hj=>exact hu.okM hs hj
 | .not a b,h,_=>exact h.1 ▸ hs
theorem H1 (n:Int):dG emptyB n=false:=by
 rw [dG,if_neg (by decide +kernel),if_neg (by decide +kernel),if_neg (by decide +kernel),if_neg (by decide +kernel)]
theorem Q8 {u:T} (h:okM u):dG u.name u.kids.length=cO u:=by
 cases u with
 | mk k n s ks=>
  rw [okM] at h
  show dG s ks.length=(decide (k=3) && dG s ks.length)
  by_cases e:k=3
  ·subst e
   rfl
  ·rw [show (decide (k=3) && dG s ks.length)=false by rw [decide_eq_false e]; rfl,h.2.1 e,H1]
end
section
open Go Go.RowKit
structure vo (cl:C):Prop where
 cf:tS cl
 hd:okM cl.head
 bd:∀ t∈cl.body,okM t
 fr:iW cl<=26
 ln:cl.body.length<=6
 w:wC cl<=1048576
 vs:∀ x∈df (cl.head::cl.body) [],0<=x/\x<1000000
mutual
theorem OL {M N:Nat}:∀ t:T,okU M t->(∀ m∈vT t,m<N)->okU N t
 | .mk k n s ks,h,hv=>by
  rw [okU] at h ⊢
  rw [vT] at hv
  refine ⟨h.1,fun e=>?_,?_,h.2.2.2⟩
  ·obtain ⟨q1,q2,q3⟩:=h.2.1 e
   have:=hv n.toNat (by rw [if_pos e]; exact List.mem_singleton.2 rfl)
   exact ⟨q1,by omega,q3⟩
  ·by_cases e:k=1
   ·rw [(h.2.1 e).2.2.2,dM]; trivial
   ·rw [if_neg e] at hv
    exact xN ks h.2.2.1 hv
theorem xN {M N:Nat}:∀ ts:List T,dM M ts->(∀ m∈vTL ts,m<N)->dM N ts
 | [],_,_=>by rw [dM]; trivial
 | t::ts,h,hv=>by
  rw [dM] at h ⊢
  rw [vTL] at hv
  exact ⟨OL t h.1 fun m hm=>hv m (List.mem_append_left _ hm),xN ts h.2 fun m hm=>hv m (List.mem_append_right _ hm)⟩
end
theorem Jd {cl:C} (h:cC cl=true):vo cl:=by
 obtain ⟨h1,h2,_⟩:=kZ h
 have hU:dM 26 (cl.head::cl.body):=by rw [dM]; exact ⟨h1,vG h2⟩
 have hmem:=tO (cl.head::cl.body) [] hU
 have hb:=h
 rw [cC] at hb
 simp only [Bool.and_eq_true,decide_eq_true_eq,List.all_eq_true] at hb
 obtain ⟨hl,hgs,hvh,_⟩:=hb
 have hlt:∀ m∈vTL (cl.head::cl.body),m<26:=MG _ hU
 have hfr:∀ m∈vTL (cl.head::cl.body),m<(iW cl).toNat:=by
  intro m hm
  have:=(yH (df (cl.head::cl.body) []) 0).2 m ((hmem m).2 (.inr ⟨m,hm,rfl⟩))
  rw [iW]
  omega
 have hN:=xN _ hU hfr
 rw [dM] at hN
 have hwh:=oA hvh
 have hwb:∀ t∈cl.body,wT t<=840:=fun t ht=>oA (eq (hgs t ht))
 have hvs:∀ x∈df (cl.head::cl.body) [],0<=x/\x<26:=by
  intro x hx
  rcases (hmem x).1 hx with hx|⟨m,hm,rfl⟩
  ·cases hx
  ·have:=hlt m hm
   omega
 have hwl:∀ ts:List T,(∀ t∈ts,wT t<=840)->wL ts<=841 * ts.length:=by
  intro ts
  induction ts with
  | nil=>intro _; simp [wL]
  | cons t ts ih=>
   intro hh
   have a:=hh t (List.mem_cons_self ..)
   have b:=ih fun u hu=>hh u (List.mem_cons_of_mem _ hu)
   simp only [wL,List.length_cons]
   omega
 have:=hwl _ hwb
 refine ⟨⟨⟨hN.1,by omega⟩,fun t ht=>⟨jr hN.2 t ht,by have:=hwb t ht; omega⟩⟩,rr hvh,fun t ht=>rr (eq (hgs t ht)),?_,hl,?_,fun x hx=>⟨(hvs x hx).1,by have:=(hvs x hx).2; omega⟩⟩
 ·exact E8 26 _ 0 (by omega) fun x hx=>(hvs x hx).2
 ·unfold wC; omega
structure okRk (k:Nat) (c:Ch):Prop where
 nb:c.binds.length<=26+26 * k
 nr:c.rest.length<=1+6 * k
 tab:tabM c.binds
 goal:okM c.goal
 rest:∀ g∈c.rest,okM g.1
 pos:0<c.binds.length
def okLp (N:Nat) (l:List Sp):Prop:=∀ x∈l,(okU N x.goal/\wT x.goal<=1048576)/\0<=x.body/\x.body<=6/\-1<=x.clause/\x.clause<=1000000
structure okXk (k:Nat) (s:Se):Prop where
 nb:s.st.binds.length<=26+26 * k
 ng:s.st.goals.length<=1+6 * k
 nc:s.st.chs.length<=k
 ns:s.steps.length<=k
 tab:tabM s.st.binds
 goals:∀ g∈s.st.goals,okM g.1
 chs:∀ c∈s.st.chs,okRk k c
 steps:okLp s.st.binds.length s.steps
 saved:∀ i (h:i<s.st.chs.length) (h':i<s.saved.length),okLp s.st.chs[i].binds.length s.saved[i]
 nv:∀ l∈s.saved,l.length<=k
 pos:0<s.st.binds.length
theorem okRk.up {k:Nat} {c:Ch} (h:okRk k c):okRk (k+1) c:=⟨by have:=h.nb; omega,by have:=h.nr; omega,h.tab,h.goal,h.rest,h.pos⟩
theorem okLp.mono {N M:Nat} {l:List Sp} (h:okLp N l) (hm:N<=M):okLp M l:=fun x hx=>⟨⟨kM hm _ (h x hx).1.1,(h x hx).1.2⟩,(h x hx).2⟩
theorem okXk.up {k:Nat} {s:Se} (h:okXk k s):okXk (k+1) s:=
 ⟨by have:=h.nb; omega,by have:=h.ng; omega,by have:=h.nc; omega,by have:=h.ns; omega,h.tab,h.goals,fun c hc=>(h.chs c hc).up,h.steps,h.saved,fun l hl=>by have:=h.nv l hl; omega,h.pos⟩
theorem FirstL.of {p:List C} {chs:List Ch} {c:Ch} {l:List Int} {o:Option (St6 × Int × List Int)} (h:FirstL p chs c l o):∀ s i r,o=some (s,i,r)->
  ∃ (n:Nat) (cl:C) (st:aF),i=n/\p[n]?=some cl/\s=ma chs c cl [] st/\Uni (Ar c.binds cl) (.one c.goal (cK c.binds.length cl.head)) true st:=by
 induction h with
 | nil=>intro s i r h; cases h
 | miss _ _ ih=>exact ih
 | hit ht=>
  intro s i r h
  simp only [Option.some.injEq,Prod.mk.injEq] at h
  obtain ⟨rfl,rfl,rfl⟩:=h
  cases ht with
  | hit hi hu=>exact ⟨_,_,_,rfl,hi,rfl,hu⟩
  | miss _ _ h=>cases h
theorem TakeR.okXk {p:List C} (hp:∀ cl∈p,vo cl) (hpl:p.length<=1000000) {k:Nat} {s s':Se} {c:Ch} (h:TakeR p s c (some s')) (hc:kz c) (hr:okRk k c) (hn:s.saved.length=s.st.chs.length)
  (hcs:∀ d∈s.st.chs,okRk k d) (hcn:s.st.chs.length<=k) (hst:okLp c.binds.length s.steps) (hsn:s.steps.length<=k)
  (hsv:∀ i (h:i<s.st.chs.length) (h':i<s.saved.length),okLp s.st.chs[i].binds.length s.saved[i]) (hsvn:∀ l∈s.saved,l.length<=k):okXk (k+1) s':=by
 cases h with
 | @yes u i l hF=>
  obtain ⟨n,cl,st,rfl,hi,rfl,hu⟩:=hF.of _ _ _ rfl
  have hm:=hp cl (List.mem_of_getElem? hi)
  obtain ⟨hg,_⟩:=hu.good (rG hc cl) (AS hc hm.cf)
  have htab:tabM st:=hu.okM (hr.tab.grow _) ⟨hr.goal,rq _ _ hm.hd⟩
  have hlen:=hg.len
  have hfr:=hm.fr
  have hln:=hm.ln
  have hnb:=hr.nb
  have hnr:=hr.nr
  have hpos:=hr.pos
  have hrn:okRk (k+1) ⟨c.goal,c.rest,l,c.binds⟩:=okRk.up ⟨hnb,hnr,hr.tab,hr.goal,hr.rest,hpos⟩
  refine ⟨?_,?_,?_,?_,htab,?_,?_,?_,?_,?_,?_⟩
  ·simp only [iM,ma]; omega
  ·simp only [iM,ma,List.length_append,List.length_map]; omega
  ·simp only [iM,List.length_append]; split <;> simp <;> omega
  ·simp only [iM,List.length_append,List.length_singleton]; omega
  ·intro g hg
   simp only [iM,ma] at hg
   rcases List.mem_append.1 hg with hg|hg
   ·obtain ⟨t,ht,rfl⟩:=List.mem_map.1 hg
    exact rq _ _ (hm.bd t ht)
   ·exact hr.rest g hg
  ·intro d hd
   simp only [iM] at hd
   rcases List.mem_append.1 hd with hd|hd
   ·exact (hcs d hd).up
   ·split at hd
    ·cases hd
    ·rw [List.mem_singleton] at hd
     subst hd
     exact hrn
  ·intro x hx
   simp only [iM,ma] at hx ⊢
   rcases List.mem_append.1 hx with hx|hx
   ·exact hst.mono (by omega) x hx
   ·rw [List.mem_singleton] at hx
    subst hx
    simp only [Int.toNat_natCast,hi,Option.elim_some]
    exact ⟨⟨kM (by omega) _ hc.goal.1,hc.goal.2⟩,by omega,by omega,by omega,by have:=(List.getElem?_eq_some_iff.1 hi).1; omega⟩
  ·intro j h1 h2
   simp only [iM] at h1 h2 ⊢
   by_cases hl:l=[]
   ·subst hl
    simp only [if_pos,List.append_nil] at h1 h2 ⊢
    exact hsv j h1 h2
   ·simp only [if_neg hl,List.length_append,List.length_singleton] at h1 h2 ⊢
    by_cases hk:j<s.st.chs.length
    ·rw [List.getElem_append_left hk,List.getElem_append_left (by omega)]
     exact hsv j hk (by omega)
    ·have hk1:j=s.st.chs.length:=by omega
     subst hk1
     rw [List.getElem_append_right (Nat.le_refl _),List.getElem_append_right (by omega)]
     simp only [hn,Nat.sub_self,List.getElem_cons_zero]
     exact hst
  ·intro q hq
   simp only [iM] at hq
   rcases List.mem_append.1 hq with hq|hq
   ·have:=hsvn q hq; omega
   ·split at hq
    ·cases hq
    ·rw [List.mem_singleton] at hq
     subst hq
     omega
  ·simp only [iM,ma]; omega
def okBL (cs:List Ch) (ss:List (List Sp)):Prop:=∀ i (h:i<cs.length) (h':i<ss.length),okLp cs[i].binds.length ss[i]
theorem okBL.last {cs:List Ch} {ss:List (List Sp)} {c:Ch} {t:List Sp} (h:okBL (cs++[c]) (ss++[t])) (hl:cs.length=ss.length):okBL cs ss/\okLp c.binds.length t:=by
 constructor
 ·intro i h1 h2
  have:=h i (by simp; omega) (by simp; omega)
  rw [List.getElem_append_left h1,List.getElem_append_left h2] at this
  exact this
 ·have:=h cs.length (by simp) (by simp [hl])
  rw [List.getElem_append_right (Nat.le_refl _),List.getElem_append_right (by omega)] at this
  simp only [hl,Nat.sub_self,List.getElem_cons_zero] at this
  exact this
theorem BackR.okXk {p:List C} (hp:∀ cl∈p,vo cl) (hpl:p.length<=1000000) {k:Nat} {cs:List Ch} {ss:List (List Sp)} {o:Option Se} (h:BackR p cs ss o):cs.length=ss.length->(∀ c∈cs,kz c/\okRk k c)->cs.length<=k->okBL cs ss->(∀ l∈ss,l.length<=k)->∀ s,o=some s->Go.Proofs.YtfcbhfjomgopbaaGreat.okXk (k+1) s:=by
 induction h with
 | nil=>intro _ _ _ _ _ s h; cases h
 | hit ht=>
  intro hl hh hk hb hv s h
  simp only [List.length_append,List.length_singleton,Nat.add_right_cancel_iff] at hl hk
  rw [Option.some.injEq] at h
  subst h
  obtain ⟨h1,h2⟩:=hb.last hl
  exact ht.okXk hp hpl (hh _ (by simp)).1 (hh _ (by simp)).2 hl.symm (fun d hd=>(hh d (List.mem_append_left _ hd)).2) (by simp only; omega) h2 (hv _ (by simp)) h1 fun l hl=>hv l (List.mem_append_left _ hl)
 | miss _ _ ih=>
  intro hl hh hk hb hv
  simp only [List.length_append,List.length_singleton,Nat.add_right_cancel_iff] at hl hk
  exact ih hl (fun d hd=>hh d (List.mem_append_left _ hd)) (by omega) (hb.last hl).1 fun l hl=>hv l (List.mem_append_left _ hl)
theorem OneR.okXk {p:List C} (hp:∀ cl∈p,vo cl) (hpl:p.length<=1000000) {k:Nat} {s s':Se} {e:Int} (h:OneR p s s' e) (hs:mH p.length s) (hx:okXk k s):okXk (k+1) s'/\(e=-2->s'=s):=by
 have hgo:=hs.st.goals
 have hgm:=hx.goals
 cases h with
 | big=>exact ⟨hx.up,fun _=>rfl⟩
 | stuck=>exact ⟨hx.up,fun _=>rfl⟩
 | fail=>exact ⟨hx.up,fun _=>rfl⟩
 | err=>exact ⟨hx.up,fun _=>rfl⟩
 | @took g rest u _ hg hu hsm _ _ ht=>
  rw [hg] at hgo hgm
  have hou:=mi hs.st.good hu (hgo _ (List.mem_cons_self ..)).1
  have hw:=mB hsm hou
  have hum:okM u:=Res.okM hx.tab hu (hgm _ (List.mem_cons_self ..))
  have hng:=hx.ng
  rw [hg,List.length_cons] at hng
  refine ⟨ht.okXk hp hpl ⟨hs.st.good,⟨hou,by simp only; omega⟩,fun x hx=>hgo x (List.mem_cons_of_mem _ hx)⟩ ⟨hx.nb,by simp only; omega,hx.tab,hum,fun x hx=>hgm x (List.mem_cons_of_mem _ hx),hx.pos⟩ hs.len hx.chs hx.nc hx.steps hx.ns hx.saved hx.nv,fun e=>(by cases e)⟩
 | @solved g rest u st hg hu hsm _ hb hB=>
  rw [hg] at hgo hgm
  have hou:=mi hs.st.good hu (hgo _ (List.mem_cons_self ..)).1
  have hw:=mB hsm hou
  have hum:okM u:=Res.okM hx.tab hu (hgm _ (List.mem_cons_self ..))
  have hgd:=hB.good hs.st.good hb ⟨hou,by omega⟩
  have hl:=hgd.len
  have hng:=hx.ng
  rw [hg,List.length_cons] at hng
  have hnb:=hx.nb
  have hns:=hx.ns
  have hpos:=hx.pos
  refine ⟨⟨by simp only; omega,by simp only; omega,by have:=hx.nc; simp only; omega,by simp only [List.length_append,List.length_singleton]; omega,hB.okM hx.tab hum,fun x h=>hgm x (List.mem_cons_of_mem _ h),fun c hc=>(hx.chs c hc).up,?_,hx.saved,fun l hl=>by have:=hx.nv l hl; omega,by simp only; omega⟩,fun e=>(by cases e)⟩
  intro x h
  simp only at h ⊢
  rw [hl]
  rcases List.mem_append.1 h with h|h
  ·exact hx.steps x h
  ·rw [List.mem_singleton] at h
   subst h
   exact ⟨⟨hou,by simp only; omega⟩,by simp,by simp,by simp,by simp⟩
theorem CE {t:T} (hm:okM t):okXk 0 (gd t):=by
 refine ⟨by simp [gd],by simp [gd],by simp [gd],by simp [gd],tabM.none 26,?_,fun c hc=>(by cases hc),fun x hx=>(by cases hx),fun i h=>(by simp [gd] at h),fun l hl=>(by cases hl),by simp [gd]⟩
 intro g hg
 simp only [gd,List.mem_singleton] at hg
 subst hg
 exact rq _ _ hm
theorem Srch.okXk {p:List C} (hp:∀ cl∈p,vo cl) (hpl:p.length<=1000000) {n:Nat} {s:Se} {o:Option Se} (h:Srch p n s o):∀ k,mH p.length s->Go.Proofs.YtfcbhfjomgopbaaGreat.okXk k s->∀ t,o=some t->Go.Proofs.YtfcbhfjomgopbaaGreat.okXk (k+n) t:=by
 induction h with
 | @done n s hg=>
  intro k h1 h2 t h
  rw [Option.some.injEq] at h
  subst h
  induction n with
  | zero=>exact h2
  | succ n ih=>exact ih.up
 | out=>intro _ _ _ t h; cases h
 | halt=>intro _ _ _ t h; cases h
 | stop=>intro _ _ _ t h; cases h
 | @step n _ _ _ hg h1 _ ih=>
  intro k hs hx t h
  have:=ih (k+1) (h1.ok (fun cl hc=>(hp cl hc).cf) hs) (h1.okXk hp hpl hs hx).1 t h
  rwa [show k+(n+1)=k+1+n by omega]
 | @back n _ s' _ _ hg h1 h2 _ ih=>
  intro k hs hx t h
  have hs':=h1.ok (fun cl hc=>(hp cl hc).cf) hs
  have e:=(h1.okXk hp hpl hs hx).2 rfl
  subst e
  have:=ih (k+1) (h2.ok (fun cl hc=>(hp cl hc).cf) hs.len.symm hs.st.chs hs.left _ rfl) (h2.okXk hp hpl hs.len.symm (fun c hc=>⟨hs.st.chs c hc,hx.chs c hc⟩) hx.nc hx.saved hx.nv _ rfl) t h
  rwa [show k+(n+1)=k+1+n by omega]
end
section
open Go Go.RowKit
mutual
def pvT:PF->List Int->List Int
 | .mk g _ ks,l=>pvL ks (eX g l)
def pvL:List PF->List Int->List Int
 | [],l=>l
 | p::ps,l=>pvL ps (pvT p l)
end
mutual
def pcT:PF->Int
 | .mk g _ ks=>dE g+pcL ks
def pcL:List PF->Int
 | []=>0
 | p::ps=>pcT p+pcL ps
end
mutual
theorem Nt:∀ p:PF,0<=pcT p
 | .mk g _ ks=>by
  have:=jy g
  have:=A2 ks
  rw [pcT]; omega
theorem A2:∀ ps:List PF,0<=pcL ps
 | []=>by rw [pcL]; omega
 | p::ps=>by
  have:=Nt p
  have:=A2 ps
  rw [pcL]; omega
end
mutual
theorem LC:∀ (p:PF) (l:List Int),((pvT p l).length:Int)<=l.length+pcT p
 | .mk g _ ks,l=>by
  have h1:=nu g l
  have h2:=OG ks (eX g l)
  rw [pvT,pcT]; omega
theorem OG:∀ (ps:List PF) (l:List Int),((pvL ps l).length:Int)<=l.length+pcL ps
 | [],l=>by rw [pvL,pcL]; omega
 | p::ps,l=>by
  have h1:=LC p l
  have h2:=OG ps (pvT p l)
  rw [pvL,pcL]; omega
end
theorem NT (ps:List PF) (j:Nat) (h:j<ps.length) (l:List Int):pvL (ps.drop j) l=pvL (ps.drop (j+1)) (pvT ps[j] l):=by
 rw [List.drop_eq_getElem_cons h,pvL]
theorem Ov (ps:List PF) (j:Nat) (h:j<ps.length):pcL (ps.drop j)=pcT ps[j]+pcL (ps.drop (j+1)):=by
 rw [List.drop_eq_getElem_cons h,pcL]
section
attribute [local irreducible] Run CondV aB aS
theorem DC:∀ (p:PF) (S:ae) (cs:List Value) (v:Value) (l:List Int),RdF S cs p->l.length+pcT p<=1000000000->Tri Tryz.prog IV [v,.agg cs.toArray] [ed v l] S (IU S (pvT p l)):=by
 refine PF.ind fun g c ks ih S cs v l h hl=>?_
 intro w hI
 obtain ⟨kv,kp,rfl,hg,_,hks⟩:=RdF.iff.1 h
 simp only [PF.goal,PF.clause,PF.kids] at hg hks ⊢
 have hlen:=hks.le
 simp only [maxLen] at hlen
 rw [pcT] at hl
 have hcp:=A2 ks
 refine wR.2 ?_
 dsimp only[wR,aW]
 refine bf hI fun b3 w' hI=>?_
 have hI:Inv w (bC [ed v l]) [.blk b3 (.cells #[.int .i64 g.kind,.int .i64 g.n,.string g.name,kv,.int .i64 c,kp] ag),ed v l] S w':=hI.perm (List.Perm.swap _ _ _)
 refine ai cQ ?_
 refine b0 hI 0 [.int .i64 g.kind,.int .i64 g.n,.string g.name,kv] ac rfl rfl sH ?_
 refine Run.call (A:=[_]) jK jA hI (km g S _ v l hg (by omega)) fun v' I' S' w'=>?_
 rintro ⟨rfl,rfl⟩ _ hI
 have hl1:=nu g l
 refine ⟨fun i t w'=>∃ (j:Nat) (r:List Int),j<=ks.length/\i=.int .i64 j/\pvL (ks.drop j) r=pvT (.mk g c ks) l/\r.length+pcL (ks.drop j)<=1000000000/\
   Inv w (bC [ed v l]) [.blk b3 (.cells #[.int .i64 g.kind,.int .i64 g.n,.string g.name,kv,.int .i64 c,kp] ag),ed t r] S' w',
  fun i _ _=>ks.length - (intOf i).toNat,⟨0,_,Nat.zero_le _,rfl,by rw [List.drop_zero,pvT],by rw [List.drop_zero]; omega,hI⟩,?_⟩
 intro t5 _ _ t0 _ _ _ _ _ _ _ _ _ _ _ _ w'
 rintro ⟨j,r,hj,rfl,hvs,hr,hI⟩
 refine ad hI 0 rfl be bk rfl ?_
 refine aC hks bz ?_
 refine bq ?_
 refine aI (fun hji=>?_) (fun hji=>?_)
 ·have hj':j<ks.length:=by omega
  rw [NT ks j hj'] at hvs
  rw [Ov ks j hj'] at hr
  have hp1:=A2 (ks.drop (j+1))
  have hp2:=LC ks[j] r
  refine ad hI 0 rfl be bk rfl ?_
  refine bY hI hks bz aN hj' (fun _ _=>RdF.length) fun cs' hcs'=>?_
  refine Run.call (A:=[_]) uy wv hI (ih _ (List.getElem_mem hj') S' cs' t0 r hcs' (by omega)) fun v' I' S2 w'=>?_
  rintro ⟨rfl,rfl⟩ _ hI
  refine bl (by omega) ?_
  exact ⟨⟨j+1,_,hj',rfl,hvs,by omega,hI⟩,by simp [intOf]; omega⟩
 have:j=ks.length:=by omega
 subst this
 rw [List.drop_length,pvL] at hvs
 subst hvs
 exact ⟨_,_,_,rfl,hI.pick [false,true],Ext.refl _ _ _,rfl,rfl⟩
end
end
end Go.Proofs.YtfcbhfjomgopbaaGreat
