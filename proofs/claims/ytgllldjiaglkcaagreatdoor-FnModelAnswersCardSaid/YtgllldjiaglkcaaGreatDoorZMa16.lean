/- the search of the spec in plain Lean: a step that takes a clause (l6Try). -/
import Derived.Test.YtgllldjiaglkcaaGreatDoorZMa15
import Derived.Test.YtgllldjiaglkcaaGreatDoorZMa6
import Derived.Test.YtgllldjiaglkcaaGreatDoorZMa13
import Derived.Test.YtgllldjiaglkcaaGreatDoorZMa3
import Derived.Test.YtgllldjiaglkcaaGreatDoorZMa0
import Derived.Test.YtgllldjiaglkcaaGreatDoorZMa1
import Derived.Test.YtgllldjiaglkcaaGreatDoorZMa12
import Derived.Test.YtgllldjiaglkcaaGreatDoorZMa5
import Derived.Test.YtgllldjiaglkcaaGreatDoorZMa7
namespace Go.Proofs.YtgllldjiaglkcaaGreatDoor
section
open Go Go.RowKit
theorem Good.grow {N:Nat} {st:ao} (h:Good N st) (k:Nat):Good (N+k) (st++List.replicate k none):=by
 have hm:∀ t,some t∈st++List.replicate k none->some t∈st:=fun t ht=>by
  rcases bJ.1 ht with ht|ht
  ·exact ht
  ·have:=U7 ht
   cases this
 obtain ⟨r,hr⟩:=h.rk
 refine ⟨by simp [h.len],fun t ht=>gZ (qT ..) t (h.ok t (hm t ht)),fun t ht=>h.w t (hm t ht),r,fun n u hu=>?_⟩
 refine hr n u ?_
 rw [WP] at hu
 split at hu
 ·exact hu
 ·have:=U7 (b0 hu)
  cases this
def WU (b:ao) (cl:C):ao:=b++List.replicate (tH cl).toNat none
def yY (cl:C):Prop:=(okU (tH cl).toNat cl.head/\wT cl.head<=1048576)/\∀ t∈cl.body,okU (tH cl).toNat t/\wT t<=1048576
def rO (chs:List Ch) (c:Ch) (cl:C) (l:List Int) (st:ao):St6:=
 ⟨cl.body.map (fun t=>(cW c.binds.length t,(chs.length:Int)))++c.rest,st,chs++(if l=[] then [] else [⟨c.goal,c.rest,l,c.binds⟩])⟩
inductive TryL (p:List C) (chs:List Ch) (c:Ch):List Int->Option St6->Prop
 | nil:TryL p chs c [] none
 | hit {i:Nat} {l:List Int} {cl:C} {st:ao}:p[i]?=some cl->Uni (WU c.binds cl) (.one c.goal (cW c.binds.length cl.head)) true st->TryL p chs c ((i:Int)::l) (some (rO chs c cl l st))
 | miss {i:Nat} {l:List Int} {cl:C} {st:ao} {o:Option St6}:p[i]?=some cl->Uni (WU c.binds cl) (.one c.goal (cW c.binds.length cl.head)) false st->TryL p chs c l o->TryL p chs c ((i:Int)::l) o
theorem TryL.inv {p:List C} {chs:List Ch} {c:Ch} {x:Int} {l:List Int} {o:Option St6} (h:TryL p chs c (x::l) o) :
  ∃ (i:Nat) (cl:C) (r:Bool) (st:ao),x=i/\p[i]?=some cl/\Uni (WU c.binds cl) (.one c.goal (cW c.binds.length cl.head)) r st/\((r=true/\o=some (rO chs c cl l st)) ∨ (r=false/\TryL p chs c l o)):=by
 cases h with
 | hit h1 h2=>exact ⟨_,_,_,_,rfl,h1,h2,.inl ⟨rfl,rfl⟩⟩
 | miss h1 h2 h3=>exact ⟨_,_,_,_,rfl,h1,h2,.inr ⟨rfl,h3⟩⟩
structure sz (c:Ch):Prop where
 good:Good c.binds.length c.binds
 goal:okU c.binds.length c.goal/\wT c.goal<=1048576
 rest:∀ g∈c.rest,okU c.binds.length g.1/\wT g.1<=1048576
structure aaF (s:St6):Prop where
 good:Good s.binds.length s.binds
 goals:∀ g∈s.goals,okU s.binds.length g.1/\wT g.1<=1048576
 chs:∀ c∈s.chs,sz c
theorem Bh {c:Ch} (hc:sz c) (cl:C):Good (c.binds.length+(tH cl).toNat) (WU c.binds cl):=hc.good.grow _
theorem NX {c:Ch} {cl:C} (hc:sz c) (hcl:yY cl):okJ (c.binds.length+(tH cl).toNat) (.one c.goal (cW c.binds.length cl.head)):=by
 refine ⟨⟨gZ (qT ..) _ hc.goal.1,hc.goal.2⟩,?_,?_⟩
 ·have:=md c.binds.length cl.head hcl.1.1
  rw [qy] at this
  exact this
 ·rw [pz]; exact hcl.1.2
theorem TryL.ex {p:List C} (hp:∀ cl∈p,yY cl) (chs:List Ch) {c:Ch} (hc:sz c):∀ l:List Int,(∀ i∈l,0<=i/\i<p.length)->∃ o,TryL p chs c l o
 | [],_=>⟨none,.nil⟩
 | i::l,hl=>by
  obtain ⟨h0,h1⟩:=hl i (aT ..)
  obtain ⟨n,rfl⟩:∃ n:Nat,i=n:=⟨i.toNat,by omega⟩
  have hn:n<p.length:=by omega
  have hg:p[n]?=some p[n]:=fT hn
  have hcl:=hp _ (bA hn)
  obtain ⟨r,st,hu⟩:=H0 _ _ (Bh hc p[n]) (aR _) _ (NX hc hcl)
  cases r with
  | true=>exact ⟨_,.hit hg hu⟩
  | false=>
   obtain ⟨o,ho⟩:=TryL.ex hp chs hc l fun i hi=>hl i (aS _ hi)
   exact ⟨o,.miss hg hu ho⟩
theorem TryL.ok {p:List C} (hp:∀ cl∈p,yY cl) {chs:List Ch} (hh:∀ c∈chs,sz c) {c:Ch} (hc:sz c) {l:List Int} {o:Option St6} (h:TryL p chs c l o):∀ s,o=some s->aaF s:=by
 induction h with
 | nil=>intro s h; cases h
 | miss _ _ _ ih=>exact ih
 | @hit i l cl st hi hu=>
  intro s hs
  simp only [bg] at hs
  subst hs
  have hcl:=hp _ (b0 hi)
  obtain ⟨hg,_⟩:=hu.good (Bh hc cl) (NX hc hcl)
  have hlen:=hg.len
  refine ⟨by rw [rO,hlen]; exact hg,fun g hm=>?_,fun d hd=>?_⟩
  ·rw [rO] at hm ⊢
   simp only at hm ⊢
   rw [hlen]
   rcases bJ.1 hm with hm|hm
   ·obtain ⟨t,ht,rfl⟩:=eF.1 hm
    obtain ⟨q1,q2⟩:=hcl.2 t ht
    have:=md c.binds.length t q1
    rw [qy] at this
    exact ⟨this,by rw [pz]; exact q2⟩
   ·exact ⟨gZ (qT ..) _ (hc.rest g hm).1,(hc.rest g hm).2⟩
  ·rw [rO] at hd
   rcases bJ.1 hd with hd|hd
   ·exact hh d hd
   ·split at hd
    ·cases hd
    ·rw [bL] at hd
     subst hd
     exact ⟨hc.good,hc.goal,hc.rest⟩
end
section
open Go Go.RowKit
structure Sp where
 goal:T
 clause:Int
 body:Int
structure Se where
 st:St6
 steps:List Sp
 saved:List (List Sp)
inductive FirstL (p:List C) (chs:List Ch) (c:Ch):List Int->Option (St6 × Int × List Int)->Prop
 | nil:FirstL p chs c [] none
 | hit {i:Int} {l:List Int} {s:St6}:TryL p chs c [i] (some s)->FirstL p chs c (i::l) (some (s,i,l))
 | miss {i:Int} {l:List Int} {o:Option (St6 × Int × List Int)}:TryL p chs c [i] none->FirstL p chs c l o->FirstL p chs c (i::l) o
theorem FirstL.ex {p:List C} (hp:∀ cl∈p,yY cl) (chs:List Ch) {c:Ch} (hc:sz c):∀ l:List Int,(∀ i∈l,0<=i/\i<p.length)->∃ o,FirstL p chs c l o
 | [],_=>⟨none,.nil⟩
 | i::l,hl=>by
  obtain ⟨o,ho⟩:=TryL.ex hp chs hc [i] fun j hj=>by
   rw [bL] at hj
   subst hj
   exact hl j (aT ..)
  cases o with
  | some s=>exact ⟨_,.hit ho⟩
  | none=>
   obtain ⟨o,h2⟩:=FirstL.ex hp chs hc l fun j hj=>hl j (aS _ hj)
   exact ⟨o,.miss ho h2⟩
theorem FirstL.ok {p:List C} (hp:∀ cl∈p,yY cl) {chs:List Ch} (hh:∀ c∈chs,sz c) {c:Ch} (hc:sz c) {l:List Int} {o:Option (St6 × Int × List Int)} (h:FirstL p chs c l o) :
  ∀ s i r,o=some (s,i,r)->aaF s/\i∈l/\(∀ j∈r,j∈l):=by
 induction h with
 | nil=>intro s i r h; cases h
 | miss _ _ ih=>
  intro s i r h
  obtain ⟨h1,h2,h3⟩:=ih s i r h
  exact ⟨h1,aS _ h2,fun j hj=>aS _ (h3 j hj)⟩
 | hit ht=>
  intro s i r h
  simp only [bg,cT] at h
  obtain ⟨rfl,rfl,rfl⟩:=h
  exact ⟨ht.ok hp hh hc _ rfl,aT ..,fun j hj=>aS _ hj⟩
def n6 (p:List C) (s:Se) (c:Ch) (u:St6) (i:Int) (l:List Int):Se:=
 ⟨⟨u.goals,u.binds,s.st.chs++(if l=[] then [] else [⟨c.goal,c.rest,l,c.binds⟩])⟩,s.steps++[⟨c.goal,i,((p[i.toNat]?).elim 0 fun cl=>(cl.body.length:Int))⟩],s.saved++(if l=[] then [] else [s.steps])⟩
inductive TakeR (p:List C) (s:Se) (c:Ch):Option Se->Prop
 | no:FirstL p s.st.chs c c.left none->TakeR p s c none
 | yes {u:St6} {i:Int} {l:List Int}:FirstL p s.st.chs c c.left (some (u,i,l))->TakeR p s c (some (n6 p s c u i l))
structure Cl (n:Nat) (s:Se):Prop where
 st:aaF s.st
 left:∀ c∈s.st.chs,∀ i∈c.left,0<=i/\i<n
 len:s.saved.length=s.st.chs.length
theorem TakeR.ex {p:List C} (hp:∀ cl∈p,yY cl) (s:Se) {c:Ch} (hc:sz c) (hl:∀ i∈c.left,0<=i/\i<p.length):∃ o,TakeR p s c o:=by
 obtain ⟨o,ho⟩:=FirstL.ex hp s.st.chs hc c.left hl
 cases o with
 | none=>exact ⟨_,.no ho⟩
 | some x=>exact ⟨_,.yes (u:=x.1) (i:=x.2.1) (l:=x.2.2) ho⟩
theorem TakeR.ok {p:List C} (hp:∀ cl∈p,yY cl) {s:Se} (hh:∀ c∈s.st.chs,sz c) (hf:∀ c∈s.st.chs,∀ i∈c.left,0<=i/\i<p.length) (hn:s.saved.length=s.st.chs.length) {c:Ch} (hc:sz c)
  (hl:∀ i∈c.left,0<=i/\i<p.length) {o:Option Se} (h:TakeR p s c o):∀ s',o=some s'->Cl p.length s':=by
 intro s' hs
 cases h with
 | no _=>cases hs
 | @yes u i l hF=>
  simp only [bg] at hs
  subst hs
  obtain ⟨h1,h2,h3⟩:=hF.ok hp hh hc u i l rfl
  refine ⟨⟨h1.good,h1.goals,fun d hd=>?_⟩,fun d hd j hj=>?_,?_⟩
  ·rcases bJ.1 hd with hd|hd
   ·exact hh d hd
   ·split at hd
    ·cases hd
    ·rw [bL] at hd
     subst hd
     exact ⟨hc.good,hc.goal,hc.rest⟩
  ·rcases bJ.1 hd with hd|hd
   ·exact hf d hd j hj
   ·split at hd
    ·cases hd
    ·rw [bL] at hd
     subst hd
     exact hl j (h3 j hj)
  ·simp only [n6,bx]
   split <;> simp [hn]
inductive BackR (p:List C):List Ch->List (List Sp)->Option Se->Prop
 | nil {ss:List (List Sp)}:BackR p [] ss none
 | hit {cs:List Ch} {ss:List (List Sp)} {c:Ch} {t:List Sp} {s:Se}:TakeR p ⟨⟨[],[],cs⟩,t,ss⟩ c (some s)->BackR p (cs++[c]) (ss++[t]) (some s)
 | miss {cs:List Ch} {ss:List (List Sp)} {c:Ch} {t:List Sp} {o:Option Se}:TakeR p ⟨⟨[],[],cs⟩,t,ss⟩ c none->BackR p cs ss o->BackR p (cs++[c]) (ss++[t]) o
theorem BackR.ex {p:List C} (hp:∀ cl∈p,yY cl):∀ (n:Nat) (cs:List Ch) (ss:List (List Sp)),cs.length=n->ss.length=n->(∀ c∈cs,sz c)->(∀ c∈cs,∀ i∈c.left,0<=i/\i<p.length)->
  ∃ o,BackR p cs ss o/\∀ s,o=some s->Cl p.length s:=by
 intro n
 induction n with
 | zero=>
  intro cs ss h _ _ _
  have:=gr h
  subst this
  exact ⟨none,.nil,fun s h=>by cases h⟩
 | succ n ih=>
  intro cs ss h1 h2 hh hf
  obtain ⟨cs,c,rfl⟩:=Yu cs |>.resolve_left fun e=>by rw [e] at h1; cases h1
  obtain ⟨ss,t,rfl⟩:=Yu ss |>.resolve_left fun e=>by rw [e] at h2; cases h2
  simp only [List.concat_eq_append,bx,pP,xz] at h1 h2 hh hf ⊢
  have hc:=hh c (by simp)
  have hl:=hf c (by simp)
  have hh':∀ c∈cs,sz c:=fun d hd=>hh d (dg _ hd)
  have hf':∀ c∈cs,∀ i∈c.left,0<=i/\i<p.length:=fun d hd=>hf d (dg _ hd)
  obtain ⟨o,ho⟩:=TakeR.ex hp ⟨⟨[],[],cs⟩,t,ss⟩ hc hl
  cases o with
  | some s=>exact ⟨_,.hit ho,fun s' e=>ho.ok hp hh' hf' (by simp only; omega) hc hl s' e⟩
  | none=>
   obtain ⟨o,h3,h4⟩:=ih cs ss h1 h2 hh' hf'
   exact ⟨o,.miss ho h3,h4⟩
end
section
open Go Go.RowKit
def iz (p:List C) (g:T):List Int:=gW (fun c=>oI (db c.head) (db g)) p 0
theorem re (p:List C) (g:T):∀ i∈iz p g,0<=i/\i<p.length:=by
 intro i hi
 obtain ⟨j,h0,rfl,hj,_⟩:=FL _ p 0 i hi
 omega
inductive OneR (p:List C) (s:Se):Se->Int->Prop
 | big {g:T × Int} {rest:List (T × Int)} {u:T}:s.st.goals=g::rest->Res s.st.binds (.one g.1 u)->(cq u=false ∨ fw u=true)->OneR p s s 0
 | took {g:T × Int} {rest:List (T × Int)} {u:T} {s':Se}:s.st.goals=g::rest->Res s.st.binds (.one g.1 u)->cq u=true->fw u=false->cz u=false->
   TakeR p s ⟨u,rest,iz p u,s.st.binds⟩ (some s')->OneR p s s' (-1)
 | stuck {g:T × Int} {rest:List (T × Int)} {u:T}:s.st.goals=g::rest->Res s.st.binds (.one g.1 u)->cq u=true->fw u=false->cz u=false->
   TakeR p s ⟨u,rest,iz p u,s.st.binds⟩ none->OneR p s s (-2)
 | fail {g:T × Int} {rest:List (T × Int)} {u:T} {st:ao}:s.st.goals=g::rest->Res s.st.binds (.one g.1 u)->cq u=true->fw u=false->cz u=true->
   Blt s.st.binds u 1 st->OneR p s s (-2)
 | err {g:T × Int} {rest:List (T × Int)} {u:T} {st:ao} {c:Int}:s.st.goals=g::rest->Res s.st.binds (.one g.1 u)->cq u=true->fw u=false->cz u=true->
   Blt s.st.binds u c st->c≠0->c≠1->OneR p s s 0
 | solved {g:T × Int} {rest:List (T × Int)} {u:T} {st:ao}:s.st.goals=g::rest->Res s.st.binds (.one g.1 u)->cq u=true->fw u=false->cz u=true->
   Blt s.st.binds u 0 st->OneR p s ⟨⟨rest,st,s.st.chs⟩,s.steps++[⟨u,-1,0⟩],s.saved⟩ (-1)
theorem OneR.ex {p:List C} (hp:∀ cl∈p,yY cl) {s:Se} (hs:Cl p.length s) (hg:s.st.goals≠[]):∃ s' k,OneR p s s' k/\Cl p.length s':=by
 obtain ⟨g,rest,hgr⟩:∃ g rest,s.st.goals=g::rest:=by
  cases h:s.st.goals with
  | nil=>exact absurd h hg
  | cons g rest=>exact ⟨g,rest,rfl⟩
 have hgo:=hs.st.goals
 rw [hgr] at hgo
 have hg1:=hgo g (aT ..)
 obtain ⟨us,hus⟩:=yR hs.st.good [g.1] (by simp only [de]; exact ⟨hg1.1,trivial⟩)
 obtain ⟨u,hu⟩:∃ u,Res s.st.binds (.one g.1 u):=by
  cases hus with
  | cons h _=>exact ⟨_,h⟩
 have hou:okU s.st.binds.length u:=l0 hs.st.good hu hg1.1
 cases hsm:cq u with
 | false=>exact ⟨_,_,.big hgr hu (.inl hsm),hs⟩
 | true=>
  have hw:=gG hsm hou
  cases hc:fw u with
  | true=>exact ⟨_,_,.big hgr hu (.inr hc),hs⟩
  | false=>
   cases hb:cz u with
   | false=>
    have hch:sz ⟨u,rest,iz p u,s.st.binds⟩:=⟨hs.st.good,⟨hou,by simp only; omega⟩,fun x hx=>hgo x (aS _ hx)⟩
    obtain ⟨o,ho⟩:=TakeR.ex hp s hch (re p u)
    cases o with
    | none=>exact ⟨_,_,.stuck hgr hu hsm hc hb ho,hs⟩
    | some s'=>exact ⟨_,_,.took hgr hu hsm hc hb ho,ho.ok hp hs.st.chs hs.left hs.len hch (re p u) _ rfl⟩
   | true=>
    obtain ⟨c,st,hB⟩:=Blt.ex hs.st.good hb ⟨hou,by omega⟩
    by_cases h1:c=1
    ·subst h1
     exact ⟨_,_,.fail hgr hu hsm hc hb hB,hs⟩
    by_cases h0:c=0
    ·subst h0
     refine ⟨_,_,.solved hgr hu hsm hc hb hB,?_⟩
     have hgd:=hB.good hs.st.good hb ⟨hou,by omega⟩
     have hl:=hgd.len
     exact ⟨⟨by simp only [hl]; exact hgd,fun x hx=>by simp only [hl]; exact hgo x (aS _ hx),hs.st.chs⟩,hs.left,hs.len⟩
    ·exact ⟨_,_,.err hgr hu hsm hc hb hB h0 h1,hs⟩
end
section
open Go Go.RowKit
inductive Srch (p:List C):Nat->Se->Option Se->Prop
 | done {n:Nat} {s:Se}:s.st.goals=[]->Srch p n s (some s)
 | out {s:Se}:s.st.goals≠[]->Srch p 0 s none
 | halt {n:Nat} {s s':Se}:s.st.goals≠[]->OneR p s s' 0->Srch p (n+1) s none
 | step {n:Nat} {s s':Se} {o:Option Se}:s.st.goals≠[]->OneR p s s' (-1)->Srch p n s' o->Srch p (n+1) s o
 | stop {n:Nat} {s s':Se}:s.st.goals≠[]->OneR p s s' (-2)->BackR p s'.st.chs s'.saved none->Srch p (n+1) s none
 | back {n:Nat} {s s' t:Se} {o:Option Se}:s.st.goals≠[]->OneR p s s' (-2)->BackR p s'.st.chs s'.saved (some t)->Srch p n t o->Srch p (n+1) s o
theorem OneR.code {p:List C} {s s':Se} {k:Int} (h:OneR p s s' k):k=0 ∨ k=-1 ∨ k=-2:=by
 cases h <;> simp
theorem Srch.ex {p:List C} (hp:∀ cl∈p,yY cl):∀ (n:Nat) (s:Se),Cl p.length s->∃ o,Srch p n s o/\∀ t,o=some t->Cl p.length t:=by
 intro n
 induction n with
 | zero=>
  intro s hs
  by_cases hg:s.st.goals=[]
  ·exact ⟨_,.done hg,fun t h=>by rw [bg] at h; subst h; exact hs⟩
  ·exact ⟨_,.out hg,fun t h=>by cases h⟩
 | succ n ih=>
  intro s hs
  by_cases hg:s.st.goals=[]
  ·exact ⟨_,.done hg,fun t h=>by rw [bg] at h; subst h; exact hs⟩
  obtain ⟨s',k,h1,h2⟩:=OneR.ex hp hs hg
  rcases h1.code with rfl|rfl|rfl
  ·exact ⟨_,.halt hg h1,fun t h=>by cases h⟩
  ·obtain ⟨o,h3,h4⟩:=ih s' h2
   exact ⟨o,.step hg h1 h3,h4⟩
  ·obtain ⟨o,h3,h4⟩:=BackR.ex hp _ s'.st.chs s'.saved rfl h2.len h2.st.chs h2.left
   cases o with
   | none=>exact ⟨_,.stop hg h1 h3,fun t h=>by cases h⟩
   | some t=>
    obtain ⟨o,h5,h6⟩:=ih t (h4 t rfl)
    exact ⟨o,.back hg h1 h3 h5,h6⟩
end
section
open Go Go.RowKit
def sw:List Sp->Int
 | []=>1
 | x::xs=>x.body - 1+sw xs
theorem Di:∀ (a b:List Sp),sw (a++b)=sw a+sw b - 1
 | [],b=>by rw [s3,sw]; omega
 | x::a,b=>by rw [iC,sw,sw,Di a b]; omega
theorem Kc (a:List Sp) (x:Sp):sw (a++[x])=sw a+x.body - 1:=by
 rw [Di]
 simp only [sw]
 omega
def openP (l:List Sp):Prop:=∀ a b,l=a++b->b≠[]->0<sw a
theorem openP.nil:openP []:=by
 intro a b h hb
 have:=congrArg List.length h
 cases b with
 | nil=>exact absurd rfl hb
 | cons y b=>simp at this
theorem openP.snoc {l:List Sp} (h:openP l) (hp:0<sw l) (x:Sp):openP (l++[x]):=by
 intro a b e hb
 obtain ⟨b',y,rfl⟩:=(Yu b).resolve_left hb
 rw [List.concat_eq_append,<- eW] at e
 have e2:=List.append_inj_left' e (by simp)
 subst e2
 cases b' with
 | nil=>rw [dB] at hp; exact hp
 | cons z b'=>exact h a (z::b') rfl (by simp)
structure okP (s:Se):Prop where
 goals:(s.st.goals.length:Int)=sw s.steps
 openP:openP s.steps
 saved:∀ i (h:i<s.st.chs.length) (h':i<s.saved.length),(s.st.chs[i].rest.length:Int)+1=sw s.saved[i]/\Go.Proofs.YtgllldjiaglkcaaGreatDoor.openP s.saved[i]
def UX (p:List C) (i:Int):Int:=(p[i.toNat]?).elim 0 fun cl=>(cl.body.length:Int)
theorem TryL.goals {p:List C} {chs:List Ch} {c:Ch} {i:Int} {s:St6} (h:TryL p chs c [i] (some s)):(s.goals.length:Int)=UX p i+c.rest.length:=by
 cases h with
 | hit hi _=>simp [rO,UX,hi]
 | miss _ _ h=>cases h
theorem FirstL.goals {p:List C} {chs:List Ch} {c:Ch} {l:List Int} {o:Option (St6 × Int × List Int)} (h:FirstL p chs c l o):∀ s i r,o=some (s,i,r)->(s.goals.length:Int)=UX p i+c.rest.length:=by
 induction h with
 | nil=>intro s i r h; cases h
 | miss _ _ ih=>exact ih
 | hit ht=>
  intro s i r h
  simp only [bg,cT] at h
  obtain ⟨rfl,rfl,rfl⟩:=h
  exact ht.goals
theorem TakeR.okP {p:List C} {s s':Se} {c:Ch} (h:TakeR p s c (some s')) (hn:s.saved.length=s.st.chs.length) (hr:(c.rest.length:Int)+1=sw s.steps) (ho:openP s.steps)
  (hs:∀ i (h:i<s.st.chs.length) (h':i<s.saved.length),(s.st.chs[i].rest.length:Int)+1=sw s.saved[i]/\Go.Proofs.YtgllldjiaglkcaaGreatDoor.openP s.saved[i]):okP s':=by
 cases h with
 | @yes u i l hF=>
  have hg:=hF.goals u i l rfl
  refine ⟨?_,?_,?_⟩
  ·simp only [n6,Kc]
   rw [hg,UX]
   omega
  ·exact ho.snoc (by omega) _
  ·intro k h1 h2
   simp only [n6] at h1 h2 ⊢
   by_cases hl:l=[]
   ·subst hl
    simp only [ai,dB] at h1 h2 ⊢
    exact hs k h1 h2
   ·simp only [ah hl,bx,pP] at h1 h2 ⊢
    by_cases hk:k<s.st.chs.length
    ·rw [gt hk,gt (by omega)]
     exact hs k hk (by omega)
    ·have hk1:k=s.st.chs.length:=by omega
     subst hk1
     rw [fP (aR _),fP (by omega)]
     simp only [hn,eD,mF]
     exact ⟨hr,ho⟩
end
section
open Go Go.RowKit
def okB (cs:List Ch) (ss:List (List Sp)):Prop:=∀ i (h:i<cs.length) (h':i<ss.length),(cs[i].rest.length:Int)+1=sw ss[i]/\openP ss[i]
theorem okB.last {cs:List Ch} {ss:List (List Sp)} {c:Ch} {t:List Sp} (h:okB (cs++[c]) (ss++[t])) (hl:cs.length=ss.length):okB cs ss/\(c.rest.length:Int)+1=sw t/\openP t:=by
 constructor
 ·intro i h1 h2
  have:=h i (by simp; omega) (by simp; omega)
  rw [gt h1,gt h2] at this
  exact this
 ·have:=h cs.length (by simp) (by simp [hl])
  rw [fP (aR _),fP (by omega)] at this
  simp only [hl,eD,mF] at this
  exact this
theorem BackR.okP {p:List C} {cs:List Ch} {ss:List (List Sp)} {o:Option Se} (h:BackR p cs ss o):cs.length=ss.length->okB cs ss->∀ s,o=some s->okP s:=by
 induction h with
 | nil=>intro _ _ s h; cases h
 | hit ht=>
  intro hl hb s h
  simp only [bx,pP,xz] at hl
  obtain ⟨h1,h2,h3⟩:=hb.last hl
  rw [bg] at h
  subst h
  exact ht.okP hl.symm h2 h3 h1
 | miss _ _ ih=>
  intro hl hb
  simp only [bx,pP,xz] at hl
  exact ih hl (hb.last hl).1
theorem OneR.okP {p:List C} {s s':Se} {k:Int} (h:OneR p s s' k) (hn:s.saved.length=s.st.chs.length) (ho:okP s):okP s':=by
 have hgl:=ho.goals
 cases h with
 | big=>exact ho
 | stuck=>exact ho
 | fail=>exact ho
 | err=>exact ho
 | took hg _ _ _ _ ht=>
  rw [hg] at hgl
  refine ht.okP hn ?_ ho.openP ho.saved
  simp only [bu] at hgl ⊢
  omega
 | solved hg _ _ _ _ _=>
  rw [hg] at hgl
  simp only [bu] at hgl
  refine ⟨?_,ho.openP.snoc (by omega) _,ho.saved⟩
  simp only [Kc]
  omega
theorem OneR.ok {p:List C} (hp:∀ cl∈p,yY cl) {s s':Se} {k:Int} (h:OneR p s s' k) (hs:Cl p.length s):Cl p.length s':=by
 have hgo:=hs.st.goals
 cases h with
 | big=>exact hs
 | stuck=>exact hs
 | fail=>exact hs
 | err=>exact hs
 | took hg hu hsm _ _ ht=>
  rw [hg] at hgo
  have hou:=l0 hs.st.good hu (hgo _ (aT ..)).1
  have hw:=gG hsm hou
  exact ht.ok hp hs.st.chs hs.left hs.len ⟨hs.st.good,⟨hou,by simp only; omega⟩,fun x hx=>hgo x (aS _ hx)⟩ (re p _) _ rfl
 | solved hg hu hsm _ hb hB=>
  rw [hg] at hgo
  have hou:=l0 hs.st.good hu (hgo _ (aT ..)).1
  have hw:=gG hsm hou
  have hgd:=hB.good hs.st.good hb ⟨hou,by omega⟩
  have hl:=hgd.len
  exact ⟨⟨by simp only [hl]; exact hgd,fun x hx=>by simp only [hl]; exact hgo x (aS _ hx),hs.st.chs⟩,hs.left,hs.len⟩
theorem BackR.ok {p:List C} (hp:∀ cl∈p,yY cl) {cs:List Ch} {ss:List (List Sp)} {o:Option Se} (h:BackR p cs ss o):cs.length=ss.length->(∀ c∈cs,sz c)->(∀ c∈cs,∀ i∈c.left,0<=i/\i<p.length)->∀ s,o=some s->Cl p.length s:=by
 induction h with
 | nil=>intro _ _ _ s h; cases h
 | hit ht=>
  intro hl hh hf s h
  simp only [bx,pP,xz] at hl
  exact ht.ok hp (fun d hd=>hh d (dg _ hd)) (fun d hd=>hf d (dg _ hd)) hl.symm (hh _ (by simp)) (hf _ (by simp)) s h
 | miss _ _ ih=>
  intro hl hh hf
  simp only [bx,pP,xz] at hl
  exact ih hl (fun d hd=>hh d (dg _ hd)) (fun d hd=>hf d (dg _ hd))
theorem Srch.ok {p:List C} (hp:∀ cl∈p,yY cl) {n:Nat} {s:Se} {o:Option Se} (h:Srch p n s o):Cl p.length s->okP s->∀ t,o=some t->Cl p.length t/\okP t/\t.st.goals=[]:=by
 induction h with
 | done hg=>intro h1 h2 t h; rw [bg] at h; subst h; exact ⟨h1,h2,hg⟩
 | out=>intro _ _ t h; cases h
 | halt=>intro _ _ t h; cases h
 | stop=>intro _ _ t h; cases h
 | step hg h1 _ ih=>exact fun hs ho=>ih (h1.ok hp hs) (h1.okP hs.len ho)
 | back hg h1 h2 _ ih=>
  intro hs ho
  have hs':=h1.ok hp hs
  have ho':=h1.okP hs.len ho
  exact ih (h2.ok hp hs'.len.symm hs'.st.chs hs'.left _ rfl) (h2.okP hs'.len.symm ho'.saved _ rfl)
end
section
open Go Go.ChangeShapes Go.WideShapes Go.ChangeAt Go.RowKit

inductive PF where
 | mk (goal:T) (clause:Int) (kids:List PF)
def PF.goal:PF->T
 | .mk g _ _=>g
def PF.clause:PF->Int
 | .mk _ c _=>c
def PF.kids:PF->List PF
 | .mk _ _ ks=>ks
theorem PF.ind {p:PF->Prop} (h:∀ g c ks,(∀ t∈ks,p t)->p (.mk g c ks)) (t:PF):p t:=
 PF.rec (motive_1:=p) (motive_2:=fun l=>∀ t∈l,p t) (fun g c ks ih=>h g c ks ih) (by simp) (fun a l h1 h2 t ht=>by
  rcases bG.1 ht with rfl|ht
  ·exact h1
  ·exact h2 t ht) t
inductive RdF (S:af):List Value->PF->Prop
 | nil {a0 a1 a2 a3:Value} {g:T} {c:Int} {a:Option Addr} {cap:Nat} (hg:RdT S [a0,a1,a2,a3] g) (hn:inI c) (hc:cap<=maxLen) :
   RdF S [a0,a1,a2,a3,.int .i64 c,.slice a 0 cap] (.mk g c [])
 | cons {a0 a1 a2 a3:Value} {g:T} {n:Int} {kids:List PF} {b o cap:Nat} {c:Array Value} {E:TypeId} {fz:Nat × Nat} (hg:RdT S [a0,a1,a2,a3] g) (hn:inI n) (hl:kids.length<=cap) (hc:cap<=maxLen)
   (hS:S b=some (.cells c E fz)) (h:∀ i (h:i<kids.length),RdF S (aO c (o+i * 6) 6) kids[i]) :
   RdF S [a0,a1,a2,a3,.int .i64 n,.slice (some ⟨b,o,none⟩) kids.length cap] (.mk g n kids)
theorem RdF.iff {S:af} {cs:List Value} {x:PF}:RdF S cs x ↔
  ∃ kv ks,cs=[.int .i64 x.goal.kind,.int .i64 x.goal.n,.string x.goal.name,kv,.int .i64 x.clause,ks]/\RdT S [.int .i64 x.goal.kind,.int .i64 x.goal.n,.string x.goal.name,kv] x.goal/\inI x.clause/\RdSl S 6 (RdF S) ks x.kids:=by
 constructor
 ·intro h
  cases h with
  | nil hg hn hc=>
   obtain ⟨kv,e,_⟩:=RdT.iff.1 hg
   simp only [jp,mU] at e
   obtain ⟨rfl,rfl,rfl,rfl⟩:=e
   exact ⟨_,_,rfl,hg,hn,_,_,rfl,be _,hc,.inl rfl⟩
  | cons hg hn hl hc hS h=>
   obtain ⟨kv,e,_⟩:=RdT.iff.1 hg
   simp only [jp,mU] at e
   obtain ⟨rfl,rfl,rfl,rfl⟩:=e
   exact ⟨_,_,rfl,hg,hn,_,_,rfl,hl,hc,.inr ⟨_,_,_,_,_,rfl,hS,h⟩⟩
 ·obtain ⟨g,n,kids⟩:=x
  rintro ⟨kv,ks,rfl,hg,hn,a,cap,rfl,hl,hc,h⟩
  rcases h with h|⟨b,o,c,E,fz,rfl,hS,h⟩
  ·simp only [PF.kids] at h
   subst h
   exact RdF.nil hg hn hc
  ·exact RdF.cons hg hn hl hc hS h
theorem RdF.length {S:af} {cs:List Value} {x:PF} (h:RdF S cs x):cs.length=6:=by
 obtain ⟨_,_,rfl,_⟩:=RdF.iff.1 h; rfl
theorem RdF.one {S:af} {cs:List Value} {x:PF} (h:RdF S cs x):∀ u∈cs,u.oneCell'=true:=by
 obtain ⟨kv,ks,rfl,hg,_,a,cap,rfl,_⟩:=RdF.iff.1 h
 have:=hg.one kv (by simp)
 intro u hu
 simp at hu
 rcases hu with rfl|rfl|rfl|rfl|rfl|rfl <;> first|rfl|exact this
theorem RdF.mono {S S':af} (hs:Sle S S') {cs:List Value} {x:PF} (h:RdF S cs x):RdF S' cs x:=by
 induction h with
 | nil hg hn hc=>exact RdF.nil (hg.mono hs) hn hc
 | cons hg hn hl hc hS _ ih=>exact RdF.cons (hg.mono hs) hn hl hc (hs _ _ hS) ih
inductive TrF:bn->List Value->PF->Prop
 | nil {L:bn} {a0 a1 a2 a3:Value} {g:T} {n:Int} {a:Option Addr} {cap:Nat} (hg:TrT L [a0,a1,a2,a3] g) (hn:inI n) (hc:cap<=maxLen) :
   TrF L [a0,a1,a2,a3,.int .i64 n,.slice a 0 cap] (.mk g n [])
 | cons {L:bn} {a0 a1 a2 a3:Value} {g:T} {n:Int} {kids:List PF} {b cap:Nat} {c:Array Value} {E:TypeId} {Ls:List bn} (hg:TrT L [a0,a1,a2,a3] g) (hn:inI n) (hl:kids.length<=cap) (hc:cap<=maxLen)
   (hLs:Ls.length=kids.length) (hsz:cap * 6<=c.size) (h:∀ i (h:i<kids.length) (h':i<Ls.length),TrF Ls[i] (aO c (i * 6) 6) kids[i]) :
   TrF (L++(b,.cells c E)::Ls.flatten) [a0,a1,a2,a3,.int .i64 n,.slice (some ⟨b,0,none⟩) kids.length cap] (.mk g n kids)
theorem TrF.iff {L:bn} {cs:List Value} {x:PF}:TrF L cs x ↔
  ∃ L1 L2 kv ks,L=L1++L2/\cs=[.int .i64 x.goal.kind,.int .i64 x.goal.n,.string x.goal.name,kv,.int .i64 x.clause,ks]/\TrT L1 [.int .i64 x.goal.kind,.int .i64 x.goal.n,.string x.goal.name,kv] x.goal/\inI x.clause/\TrSl 6 TrF L2 ks x.kids:=by
 constructor
 ·intro h
  cases h with
  | nil hg hn hc=>
   obtain ⟨kv,e,_⟩:=TrT.iff.1 hg
   simp only [jp,mU] at e
   obtain ⟨rfl,rfl,rfl,rfl⟩:=e
   exact ⟨_,[],_,_,(dB _).symm,rfl,hg,hn,_,_,rfl,be _,hc,.inl ⟨rfl,rfl⟩⟩
  | cons hg hn hl hc hLs hsz h=>
   obtain ⟨kv,e,_⟩:=TrT.iff.1 hg
   simp only [jp,mU] at e
   obtain ⟨rfl,rfl,rfl,rfl⟩:=e
   exact ⟨_,_,_,_,rfl,rfl,hg,hn,_,_,rfl,hl,hc,.inr ⟨_,_,_,_,rfl,rfl,hLs,hsz,h⟩⟩
 ·obtain ⟨g,n,kids⟩:=x
  rintro ⟨L1,L2,kv,ks,rfl,rfl,hg,hn,a,cap,rfl,hl,hc,h⟩
  rcases h with ⟨h,rfl⟩|⟨b,c,E,Ls,rfl,rfl,hLs,hsz,h⟩
  ·simp only [PF.kids] at h
   subst h
   rw [dB]
   exact TrF.nil hg hn hc
  ·exact TrF.cons hg hn hl hc hLs hsz h
theorem TrF.length {L:bn} {cs:List Value} {x:PF} (h:TrF L cs x):cs.length=6:=by
 obtain ⟨_,_,_,_,_,rfl,_⟩:=TrF.iff.1 h; rfl
theorem TrF.one {L:bn} {cs:List Value} {x:PF} (h:TrF L cs x):∀ u∈cs,u.oneCell'=true:=by
 obtain ⟨_,_,kv,ks,_,rfl,hg,_,a,cap,rfl,_⟩:=TrF.iff.1 h
 have:=hg.one kv (by simp)
 intro u hu
 simp at hu
 rcases hu with rfl|rfl|rfl|rfl|rfl|rfl <;> first|rfl|exact this
theorem TrF.rd {S:af} {L:bn} {cs:List Value} {x:PF} (h:TrF L cs x) (hi:Ins S L):RdF S cs x:=by
 induction h with
 | nil hg hn hc=>exact RdF.nil (hg.rd hi) hn hc
 | cons hg hn hl hc hLs hsz h ih=>
  refine RdF.cons (hg.rd hi.left) hn hl hc (hi.right _ (aT ..)) (o:=0) fun i h1=>?_
  rw [bR]
  exact ih i h1 (by omega) (Fq (fun p hp=>hi.right p (aS _ hp)) (by omega))
section
attribute [local irreducible] Run CondV aw aN
end
section
variable {H:Type} {enc:TypeId × Value->H} {W:World} {sp:Nat->Bool} {held:Bool}
end
end
section
open Go Go.RowKit
section
attribute [local irreducible] Run CondV aw aN
end
def abK (g:T) (c:Int) (l:Nat):Bool:=eX g && ((decide (-1<=c) && decide (c<=19)) && decide (l<=6))
mutual
def acf:PF->Int->Bool
 | .mk g c ks,d=>decide (1<=d) && (abK g c ks.length && Z3 ks (d - 1))
def Z3:List PF->Int->Bool
 | [],_=>true
 | t::ts,d=>acf t d && Z3 ts d
end
mutual
def abx:PF->Int
 | .mk _ _ ks=>1+aah ks
def aah:List PF->Int
 | []=>0
 | t::ts=>abx t+aah ts
end
def abe (x:PF):Bool:=acf x 20 && decide (abx x<=60)
section
attribute [local irreducible] Run CondV aw aN
end
end
section
open Go Go.RowKit
section
variable {S:af} {ys:List Nat} {v:Value}
attribute [local irreducible] Run CondV aw aN
end
end
section
open Go Go.RowKit

def Aq (u t:T):Bool:=cn u && (cn t && (bm t u st0).1)
section
attribute [local irreducible] Run CondV aw aN
theorem xk {u t:T} {S:af} {ds cs:List Value} (h:RdT S ds u) (h':RdT S cs t):Pure Tryz.prog GK [.agg ds.toArray,.agg cs.toArray] S (.bool (Aq u t)):=by
 intro w hI
 have hds:=h
 have hcs:=h'
 obtain ⟨kv,rfl,_,_,_,hks⟩:=RdT.iff.1 h
 obtain ⟨kv',rfl,_,_,_,hks'⟩:=RdT.iff.1 h'
 obtain ⟨k,n,s,ks⟩:=u
 obtain ⟨k',n',s',ks'⟩:=t
 simp only [T.name,T.kids,T.kind,T.n] at hks hks' hds hcs ⊢
 refine rG.2 ?_
 dsimp only[rG,aZ]
 refine bt hI fun b1 w' hI=>?_
 refine bt hI fun b2 w' hI=>?_
 have hI:Inv w [] [.blk b1 (.cells #[.int .i64 k,.int .i64 n,.string s,kv] ac),.blk b2 (.cells #[.int .i64 k',.int .i64 n',.string s',kv'] ac)] S w':=hI
 refine ar hI 0 ad rfl rfl ?_
 refine Run.callPure hY gS hI (fO hds) fun w' hI=>?_
 rw [Aq]
 cases hv1:cn (.mk k n s ks)
 ·refine rpG ?_
  exact done hI rfl
 refine rpG ?_
 refine ar hI 1 ad rfl rfl ?_
 refine Run.callPure hY gS hI (fO hcs) fun w' hI=>?_
 cases hv2:cn (.mk k' n' s' ks')
 ·refine rpG ?_
  exact done hI rfl
 refine rpG ?_
 refine ar hI 0 ad rfl rfl ?_
 refine ar hI 1 ad rfl rfl ?_
 refine uY hI fun mb w' hI=>?_
 refine Run.call (A:=[_,_]) oX o7 hI (um _ _ S _ _ mb 0 #[] st0 hcs hds (yW hv2).1 (yW hv1).2 aa9 (KnownM.empty S)) fun v' I' S' w'=>?_
 rintro ⟨rfl,rfl,es,ck,rfl,_⟩ _ hI
 refine rpG ?_
 exact done hI rfl
end
end
section
open Go Go.RowKit
mutual
def sbT (σ:Int->T):T->T
 | .mk k n s ks=>if k=1 then σ n else .mk k n s (sbL σ ks)
def sbL (σ:Int->T):List T->List T
 | []=>[]
 | t::ts=>sbT σ t::sbL σ ts
end
theorem kK (σ:Int->T):∀ ts:List T,(sbL σ ts).length=ts.length
 | []=>rfl
 | t::ts=>by rw [sbL,bu,kK σ ts,bu]
mutual
theorem zp (σ τ:Int->T):∀ t:T,sbT σ (sbT τ t)=sbT (fun n=>sbT σ (τ n)) t
 | .mk k n s ks=>by
  by_cases hk:k=1
  ·rw [sbT,ai hk,sbT,ai hk]
  ·rw [sbT,ah hk,sbT,ah hk,sbT,ah hk,OI σ τ ks]
theorem OI (σ τ:Int->T):∀ ts:List T,sbL σ (sbL τ ts)=sbL (fun n=>sbT σ (τ n)) ts
 | []=>rfl
 | t::ts=>by rw [sbL,sbL,sbL,zp σ τ t,OI σ τ ts]
end
def idS (n:Int):T:=.mk 1 n emptyB []
def Agk (σ:Int->T) (st:ao):Prop:=∀ (i:Nat) (t:T),st[i]?=some (some t)->σ i=t
def Gek (st st':ao):Prop:=st'.length=st.length/\∀ (i:Nat) (t:T),st[i]?=some (some t)->st'[i]?=some (some t)
theorem Gek.refl (st:ao):Gek st st:=⟨rfl,fun _ _ h=>h⟩
theorem Gek.trans {a b c:ao} (h:Gek a b) (h':Gek b c):Gek a c:=⟨h'.1.trans h.1,fun i t hi=>h'.2 i t (h.2 i t hi)⟩
theorem Agk.less {σ:Int->T} {a b:ao} (h:Agk σ b) (hg:Gek a b):Agk σ a:=fun i t hi=>h i t (hg.2 i t hi)
theorem G1 {t u:T}:jM t u=true↔t.kind=u.kind/\t.n=u.n/\t.name=u.name/\t.kids.length=u.kids.length:=by
 simp [jM]
mutual
theorem pw:∀ (t u:T) (st:ao),okV t->Gek st (bm t u st).2
 | .mk k n s ks,u,st,hv=>by
  rw [okV] at hv
  rw [bm]
  by_cases hk:k=1
  ·rw [ai hk]
   split
   ·exact Gek.refl _
   ·rename_i hno
    refine ⟨by simp,fun i t hi=>?_⟩
    rw [wq]
    split
    ·rename_i e
     subst e
     exact absurd hi (hno t)
    ·exact hi
  ·rw [ah hk]
   split
   ·exact Cm ks u.kids st hv.2
   ·exact Gek.refl _
theorem Cm:∀ (ts us:List T) (st:ao),nl ts->Gek st (di ts us st).2
 | [],_,st,_=>by rw [di]; exact Gek.refl _
 | _::_,[],st,_=>by rw [di]; exact Gek.refl _
 | t::ts,u::us,st,hv=>by
  rw [nl] at hv
  rw [di]
  split
  ·exact (pw t u st hv.1).trans (Cm ts us _ hv.2)
  ·exact pw t u st hv.1
end
mutual
theorem qG (σ:Int->T):∀ (t u:T) (st:ao),okV t->st.length=26->(bm t u st).1=true->Agk σ (bm t u st).2->sbT σ t=u
 | .mk k n s ks,u,st,hv,hl,hm,ha=>by
  rw [okV] at hv
  rw [bm] at hm ha
  by_cases hk:k=1
  ·obtain ⟨h0,h1⟩:=hv.1 hk
   rw [ai hk] at hm ha
   rw [sbT,ai hk]
   split at hm
   ·rename_i t0 hst
    rw [hst] at ha
    have:=ha n.toNat t0 hst
    rw [mD h0] at this
    rw [this]
    exact (jJ _ _).1 hm
   ·rename_i hno
    split at ha
    ·rename_i t0 hst
     exact absurd hst (hno t0)
    ·have:=ha n.toNat u (by rw [F3 (by omega)])
     rwa [mD h0] at this
  ·rw [ah hk] at hm ha
   rw [sbT,ah hk]
   split at hm
   ·rename_i hh
    rw [ai hh] at ha
    obtain ⟨h1,h2,h3,h4⟩:=G1.1 hh
    have:=yK σ ks u.kids st hv.2 hl (Nj h4) hm ha
    rw [this]
    cases u
    simp only [T.kind,T.n,T.name,T.kids] at h1 h2 h3 ⊢
    rw [h1,h2,h3]
    congr 1
    rw [AQ]
    simp only [T.kids] at h4
    omega
   ·cases hm
theorem yK (σ:Int->T):∀ (ts us:List T) (st:ao),nl ts->st.length=26->ts.length<=us.length->(di ts us st).1=true->Agk σ (di ts us st).2->sbL σ ts=us.take ts.length
 | [],us,st,_,_,_,_,_=>by rw [sbL]; rfl
 | t::ts,[],st,_,_,hlen,_,_=>by simp at hlen
 | t::ts,u::us,st,hv,hl,hlen,hm,ha=>by
  rw [nl] at hv
  rw [di] at hm ha
  split at hm
  ·rename_i h1
   rw [ai h1] at ha
   have hg:=pw t u st hv.1
   have hg2:=Cm ts us (bm t u st).2 hv.2
   rw [sbL,bu,mN,qG σ t u st hv.1 hl h1 (ha.less hg2),yK σ ts us _ hv.2 (hg.1.trans hl) (by simpa using hlen) hm ha]
  ·cases hm
end
mutual
theorem qJ (σ:Int->T):∀ (t u:T) (st:ao),okV t->st.length=26->Agk σ st->sbT σ t=u->(bm t u st).1=true/\Agk σ (bm t u st).2
 | .mk k n s ks,u,st,hv,hl,ha,hs=>by
  rw [okV] at hv
  rw [bm]
  by_cases hk:k=1
  ·obtain ⟨h0,h1⟩:=hv.1 hk
   rw [sbT,ai hk] at hs
   rw [ai hk]
   split
   ·rename_i t0 hst
    have:=ha n.toNat t0 hst
    rw [mD h0,hs] at this
    exact ⟨(jJ _ _).2 this.symm,ha⟩
   ·refine ⟨rfl,fun i t hi=>?_⟩
    rw [wq] at hi
    split at hi
    ·rename_i e
     subst e
     rw [ai (by omega)] at hi
     simp only [bg] at hi
     rw [mD h0,hs,hi]
    ·exact ha i t hi
  ·rw [sbT,ah hk] at hs
   subst hs
   rw [ah hk,ai ((G1 (t:=.mk k n s ks) (u:=.mk k n s (sbL σ ks))).2 ⟨rfl,rfl,rfl,(kK σ ks).symm⟩)]
   exact z7 σ ks (sbL σ ks) st hv.2 hl ha (by rw [AQ (by rw [kK]; exact aR _)])
theorem z7 (σ:Int->T):∀ (ts us:List T) (st:ao),nl ts->st.length=26->Agk σ st->sbL σ ts=us.take ts.length->(di ts us st).1=true/\Agk σ (di ts us st).2
 | [],us,st,_,_,ha,_=>by rw [di]; exact ⟨rfl,ha⟩
 | t::ts,[],st,_,_,_,hs=>by simp [sbL] at hs
 | t::ts,u::us,st,hv,hl,ha,hs=>by
  rw [nl] at hv
  rw [sbL,bu,mN,jp] at hs
  rw [di]
  obtain ⟨h1,h2⟩:=qJ σ t u st hv.1 hl ha hs.1
  rw [ai h1]
  exact z7 σ ts us _ hv.2 ((pw t u st hv.1).1.trans hl) h2 hs.2
end
def ofK (st:ao) (n:Int):T:=match st[n.toNat]? with
 | some (some t)=>t
 | _=>idS n
theorem NB (st:ao):Agk (ofK st) st:=fun i t h=>by rw [ofK,cV,h]
theorem UG (σ:Int->T):Agk σ st0:=fun i t h=>by
 simp only [st0,Ll] at h
 split at h <;> cases h
theorem VQ {t u:T} (hv:okV t):(bm t u st0).1=true↔∃ σ,sbT σ t=u:=
 ⟨fun h=>⟨_,qG _ t u st0 hv (by simp [st0]) h (NB _)⟩,fun ⟨σ,h⟩=>(qJ σ t u st0 hv (by simp [st0]) (UG σ) h).1⟩
end
section
open Go Go.RowKit
section
variable {S:af} {ys zs:List Nat} {v u:Value}
attribute [local irreducible] Run CondV aw aN
theorem RdC.cells {S:af} {cs:List Value} {c:C} (h:RdC S cs c):∃ kv kb,cs=[.int .i64 c.head.kind,.int .i64 c.head.n,.string c.head.name,kv,kb]/\RdT S [.int .i64 c.head.kind,.int .i64 c.head.n,.string c.head.name,kv] c.head/\RdSl S 4 (RdT S) kb c.body:=by
 obtain ⟨hd,kb,rfl,h1,h2⟩:=h
 have h1':=h1
 obtain ⟨kv,rfl,_⟩:=RdT.iff.1 h1
 exact ⟨kv,kb,rfl,h1',h2⟩
end
end
section
open Go Go.RowKit
theorem nO {t:T} (h:cn t=true):wT t<=840:=by
 have ho:=jZ h
 have h1:=RU t ho
 rw [cn,bw] at h
 have h2:eq t<=120:=by simpa using h.2
 omega
theorem i9 {g:T} (h:eX g=true):cn g=true:=by
 rw [eX,bw] at h; exact h.1
theorem VO {g:T} (h:eX g=true):decide (g.kind=3)=true:=by
 rw [eX,bw,jC,jC] at h
 rcases h.2 with h|h|h
 ·rw [fw,bw] at h; exact h.1
 ·rw [cF,bw] at h; exact h.1
 ·rw [cz,bw] at h; exact h.1
def bltF (g:T) (f:Bool):Prop:=(cz g=false/\f=false) ∨ (cz g=true/\∃ code st',Blt ac5 g code st'/\f=acP code st')
theorem bltF.ex {g:T} (h:cn g=true):∃ f,bltF g f:=by
 cases hb:cz g with
 | false=>exact ⟨false,.inl ⟨hb,rfl⟩⟩
 | true=>
  have:=nO h
  obtain ⟨c,st',hB⟩:=Blt.ex (Ky 26) hb ⟨jZ h,by omega⟩
  exact ⟨_,.inr ⟨hb,c,st',hB,rfl⟩⟩
open Classical in
noncomputable def bltV (g:T):Bool:=if h:∃ f,bltF g f then h.choose else false
def aag:List T->List PF->ao->Bool
 | g::gs,x::xs,st=>!fw g && ((bm g x.goal st).1 && aag gs xs (bm g x.goal st).2)
 | _,_,_=>true
noncomputable def nodeC (p:List C) (g:T) (c:Int) (ks:List PF):Bool:=if c<0 then decide (ks.length=0) && bltV g else match p[c.toNat]? with
 | none=>false
 | some q=>decide (ks.length=q.body.length) && ((bm q.head g st0).1 && aag q.body ks (bm q.head g st0).2)
mutual
noncomputable def chkF (p:List C):PF->Bool
 | .mk g c ks=>nodeC p g c ks && chkFL p ks
noncomputable def chkFL (p:List C):List PF->Bool
 | []=>true
 | x::xs=>chkF p x && chkFL p xs
end
noncomputable def interL (p:List C):List T->List PF->ao->Bool
 | g::gs,x::xs,st=>!fw g && ((bm g x.goal st).1 && (chkF p x && interL p gs xs (bm g x.goal st).2))
 | _,_,_=>true
section
attribute [local irreducible] Run CondV aw aN
end
end
section
open Go Go.RowKit
mutual
def okM:T->Prop
 | .mk k n s ks=>(k=2->-999<=n/\n<=999)/\(k≠3->s=emptyB)/\pg ks
def pg:List T->Prop
 | []=>True
 | t::ts=>okM t/\pg ts
end
theorem tu:∀ {ts:List T},pg ts->∀ t∈ts,okM t
 | t::ts,h,x,hx=>by
  rw [pg] at h
  rcases bG.1 hx with rfl|hx
  ·exact h.1
  ·exact tu h.2 x hx
theorem T1:∀ {ts:List T},(∀ t∈ts,okM t)->pg ts
 | [],_=>by rw [pg]; trivial
 | t::ts,h=>by rw [pg]; exact ⟨h t (aT ..),T1 fun u hu=>h u (aS _ hu)⟩
theorem okM.kids {t:T} (h:okM t):pg t.kids:=by cases t; rw [okM] at h; exact h.2.2
mutual
theorem okM.okN:∀ {t:T},okM t->okN t
 | .mk k n s ks,h=>by
  rw [okM] at h
  rw [Go.Proofs.YtgllldjiaglkcaaGreatDoor.okN]
  exact ⟨h.1,O2 h.2.2⟩
theorem O2:∀ {ts:List T},pg ts->Mh ts
 | [],_=>by rw [Mh]; trivial
 | t::ts,h=>by
  rw [pg] at h
  rw [Mh]
  exact ⟨okM.okN h.1,O2 h.2⟩
end
mutual
theorem LB:∀ (t:T) (d:Int),d6 t d=true->okM t
 | .mk k n s ks,d,h=>by
  rw [d6] at h
  split at h
  ·cases h
  rw [bw] at h
  obtain ⟨ho,hk⟩:=h
  rw [okM]
  have h2:k=2->(-999<=n/\n<=999)/\s=emptyB:=by
   intro e
   subst e
   have ho2:dS (.mk 2 n s ks)=(decide (-999<=n) && (decide (n<=999) && (decide (s=emptyB) && decide (ks.length=0)))):=by
    rw [dS]; exact (ah (show ¬ (2:Int)=1 by decide)).trans (ai rfl)
   rw [ho2,bw,bw,bw] at ho
   exact ⟨⟨of_decide_eq_true ho.1,of_decide_eq_true ho.2.1⟩,of_decide_eq_true ho.2.2.1⟩
  refine ⟨fun e=>(h2 e).1,fun e=>?_,GB ks _ hk⟩
  by_cases e2:k=2
  ·exact (h2 e2).2
  ·have ho:(if k=1 then decide (0<=n) && (decide (n<=25) && (decide (s=emptyB) && decide (ks.length=0))) else if k=2 then decide (-999<=n) && (decide (n<=999) && (decide (s=emptyB) && decide (ks.length=0))) else if k=3 then decide (n=0) && (lN s && decide (ks.length<=4)) else false)=true:=ho
   rw [ah e2,ah e] at ho
   split at ho
   ·simp only [bw,bk] at ho
    exact ho.2.2.1
   ·cases ho
theorem GB:∀ (ts:List T) (d:Int),d4 ts d=true->pg ts
 | [],_,_=>by rw [pg]; trivial
 | t::ts,d,h=>by
  rw [d4,bw] at h
  rw [pg]
  exact ⟨LB t d h.1,GB ts d h.2⟩
end
theorem BV {t:T} (h:cn t=true):okM t:=LB t 30 (lk h)
mutual
theorem qj (m:Int):∀ t:T,okM t->okM (cW m t)
 | .mk k n s ks,h=>by
  rw [okM] at h
  rw [cW,okM]
  refine ⟨fun e=>?_,h.2.1,Fy m ks h.2.2⟩
  rw [ah (by omega)]
  exact h.1 e
theorem Fy (m:Int):∀ ts:List T,pg ts->pg (gj m ts)
 | [],_=>by rw [gj,pg]; trivial
 | t::ts,h=>by
  rw [pg] at h
  rw [gj,pg]
  exact ⟨qj m t h.1,Fy m ts h.2⟩
end
def tabM (st:ao):Prop:=∀ t,some t∈st->okM t
theorem tabM.set {st:ao} (h:tabM st) {n:Nat} {t:T} (ht:okM t):tabM (st.set n (some t)):=by
 intro u hu
 rcases xi hu with hu|hu
 ·exact h u hu
 ·rw [bg] at hu
  subst hu
  exact ht
theorem tabM.look {st:ao} (h:tabM st) {t u:T} (hl:look st t=some u):okM u:=h u (b0 (dp.1 hl).2)
theorem tabM.walk {st:ao} (h:tabM st) {t v:T} (hw:dA st t v) (ht:okM t):okM v:=by
 induction hw with
 | stop=>exact ht
 | step hl _ ih=>exact ih (h.look hl)
theorem tabM.grow {st:ao} (h:tabM st) (k:Nat):tabM (st++List.replicate k none):=by
 intro t ht
 rcases bJ.1 ht with ht|ht
 ·exact h t ht
 ·have:=U7 ht
  cases this
theorem tabM.none (k:Nat):tabM (List.replicate k none):=by
 intro t ht
 have:=U7 ht
 cases this
def aa1:Job->Prop
 | .one a b=>okM a/\okM b
 | .list xs ys=>(∀ a∈xs,okM a)/\∀ b∈ys,okM b
theorem Uni.okM {st st':ao} {j:Job} {r:Bool} (hu:Uni st j r st'):tabM st->aa1 j->tabM st':=by
 induction hu with
 | same=>exact fun h _=>h
 | occA=>exact fun h _=>h
 | occB=>exact fun h _=>h
 | clash=>exact fun h _=>h
 | nil=>exact fun h _=>h
 | bindA ha hb _ _ _=>exact fun h hj=>h.set (h.walk hb hj.2)
 | bindB ha hb _ _ _=>exact fun h hj=>h.set (h.walk ha hj.1)
 | kids ha hb _ _ _ _ ih=>exact fun h hj=>ih h ⟨tu (h.walk ha hj.1).kids,tu (h.walk hb hj.2).kids⟩
 | stop _ ih=>exact fun h hj=>ih h ⟨hj.1 _ (aT ..),hj.2 _ (aT ..)⟩
 | go _ _ ih1 ih2=>
  exact fun h hj=>ih2 (ih1 h ⟨hj.1 _ (aT ..),hj.2 _ (aT ..)⟩) ⟨fun a ha=>hj.1 a (aS _ ha),fun b hb=>hj.2 b (aS _ hb)⟩
theorem Res.okM {st:ao} (hs:tabM st) {j:Ra} (h:Res st j):match j with
  | .one t u=>okM t->okM u
  | .list ts us=>(∀ t∈ts,okM t)->∀ u∈us,okM u:=by
 induction h with
 | @one t v us hw _ ih=>
  intro ht
  have hv:=hs.walk hw ht
  have hk:=ih (tu hv.kids)
  cases v
  rw [Go.Proofs.YtgllldjiaglkcaaGreatDoor.okM] at hv ⊢
  exact ⟨hv.1,hv.2.1,T1 hk⟩
 | nil=>intro _ u hu; cases hu
 | cons _ _ ih1 ih2=>
  intro ht u hu
  rcases bG.1 hu with rfl|hu
  ·exact ih1 (ht _ (aT ..))
  ·exact ih2 (fun t h=>ht t (aS _ h)) u hu
theorem okM.kd {g:T} (h:okM g) (i:Nat):okM (kd g i):=by
 rw [Go.Proofs.YtgllldjiaglkcaaGreatDoor.kd,wF]
 cases e:g.kids[i]? with
 | none=>
  simp only [Option.getD_none]
  rw [zT,Go.Proofs.YtgllldjiaglkcaaGreatDoor.okM,pg]
  exact ⟨fun e=>(by cases e),fun _=>rfl,trivial⟩
 | some u=>exact tu h.kids u (b0 e)
theorem YM {n:Int} (h:Sm n):okM (Ph n):=by
 rw [Ph,okM,pg]
 exact ⟨fun _=>h,fun _=>rfl,trivial⟩
def acq:BJ->Prop
 | .done _=>True
 | .uni a b=>aa1 (.one a b)
 | .not a b=>aa1 (.one a b)
theorem aaK {g:T} (h:okM g):acq (iR g):=by
 unfold iR
 split
 ·trivial
 split
 ·trivial
 split
 ·exact ⟨h.kd _,h.kd _⟩
 split
 ·exact ⟨h.kd _,h.kd _⟩
 split
 ·trivial
 split
 ·split
  ·trivial
  ·exact ⟨h.kd _,YM (yx _ (h.kd _).okN)⟩
 split
 ·unfold M8
  split
  ·trivial
  split
  ·trivial
  split
  ·trivial
  ·exact ⟨h.kd _,(h.kd _).kd _⟩
 split
 ·trivial
 ·trivial
theorem Blt.okM {st st':ao} {g:T} {c:Int} (hs:tabM st) (hg:okM g) (h:Blt st g c st'):tabM st':=by
 have hj:=aaK hg
 unfold Blt at h
 match hb:iR g,h,hj with
 | .done c,h,_=>exact h.2 ▸ hs
 | .uni a b,⟨r,hu,_⟩,hj=>exact hu.okM hs hj
 | .not a b,h,_=>exact h.1 ▸ hs
end
section
open Go Go.RowKit
structure WE (cl:C):Prop where
 cf:yY cl
 hd:okM cl.head
 bd:∀ t∈cl.body,okM t
 fr:tH cl<=26
 ln:cl.body.length<=6
 w:wC cl<=1048576
 vs:∀ x∈dY (cl.head::cl.body) [],0<=x/\x<1000000
mutual
theorem Xv {M N:Nat}:∀ t:T,okU M t->(∀ m∈vT t,m<N)->okU N t
 | .mk k n s ks,h,hv=>by
  rw [okU] at h ⊢
  rw [vT] at hv
  refine ⟨h.1,fun e=>?_,?_,h.2.2.2⟩
  ·obtain ⟨q1,q2,q3⟩:=h.2.1 e
   have:=hv n.toNat (by rw [ai e]; exact bL.2 rfl)
   exact ⟨q1,by omega,q3⟩
  ·by_cases e:k=1
   ·rw [(h.2.1 e).2.2.2,de]; trivial
   ·rw [ah e] at hv
    exact Bc ks h.2.2.1 hv
theorem Bc {M N:Nat}:∀ ts:List T,de M ts->(∀ m∈vTL ts,m<N)->de N ts
 | [],_,_=>by rw [de]; trivial
 | t::ts,h,hv=>by
  rw [de] at h ⊢
  rw [vTL] at hv
  exact ⟨Xv t h.1 fun m hm=>hv m (dg _ hm),Bc ts h.2 fun m hm=>hv m (gA _ hm)⟩
end
theorem Pn {cl:C} (h:bN cl=true):WE cl:=by
 obtain ⟨h1,h2,_⟩:=gc h
 have hU:de 26 (cl.head::cl.body):=by rw [de]; exact ⟨h1,qP h2⟩
 have hmem:=xI (cl.head::cl.body) [] hU
 have hb:=h
 rw [bN] at hb
 simp only [bw,bk,dE] at hb
 obtain ⟨hl,hgs,hvh,_⟩:=hb
 have hlt:∀ m∈vTL (cl.head::cl.body),m<26:=Sv _ hU
 have hfr:∀ m∈vTL (cl.head::cl.body),m<(tH cl).toNat:=by
  intro m hm
  have:=(K6 (dY (cl.head::cl.body) []) 0).2 m ((hmem m).2 (.inr ⟨m,hm,rfl⟩))
  rw [tH]
  omega
 have hN:=Bc _ hU hfr
 rw [de] at hN
 have hwh:=nO hvh
 have hwb:∀ t∈cl.body,wT t<=840:=fun t ht=>nO (i9 (hgs t ht))
 have hvs:∀ x∈dY (cl.head::cl.body) [],0<=x/\x<26:=by
  intro x hx
  rcases (hmem x).1 hx with hx|⟨m,hm,rfl⟩
  ·cases hx
  ·have:=hlt m hm
   omega
 have hwl:∀ ts:List T,(∀ t∈ts,wT t<=840)->wL ts<=841 * ts.length:=by
  intro ts
  induction ts with
  | nil=>intro _; simp [wL]
  | cons t ts ih=>
   intro hh
   have a:=hh t (aT ..)
   have b:=ih fun u hu=>hh u (aS _ hu)
   simp only [wL,bu]
   omega
 have:=hwl _ hwb
 refine ⟨⟨⟨hN.1,by omega⟩,fun t ht=>⟨kV hN.2 t ht,by have:=hwb t ht; omega⟩⟩,BV hvh,fun t ht=>BV (i9 (hgs t ht)),?_,hl,?_,fun x hx=>⟨(hvs x hx).1,by have:=(hvs x hx).2; omega⟩⟩
 ·exact KN 26 _ 0 (by omega) fun x hx=>(hvs x hx).2
 ·unfold wC; omega
structure okRk (k:Nat) (c:Ch):Prop where
 nb:c.binds.length<=26+26 * k
 nr:c.rest.length<=1+6 * k
 tab:tabM c.binds
 goal:okM c.goal
 rest:∀ g∈c.rest,okM g.1
 pos:0<c.binds.length
def okLp (N:Nat) (l:List Sp):Prop:=∀ x∈l,(okU N x.goal/\wT x.goal<=1048576)/\0<=x.body/\x.body<=6/\-1<=x.clause/\x.clause<=1000000
structure okXk (k:Nat) (s:Se):Prop where
 nb:s.st.binds.length<=26+26 * k
 ng:s.st.goals.length<=1+6 * k
 nc:s.st.chs.length<=k
 ns:s.steps.length<=k
 tab:tabM s.st.binds
 goals:∀ g∈s.st.goals,okM g.1
 chs:∀ c∈s.st.chs,okRk k c
 steps:okLp s.st.binds.length s.steps
 saved:∀ i (h:i<s.st.chs.length) (h':i<s.saved.length),okLp s.st.chs[i].binds.length s.saved[i]
 nv:∀ l∈s.saved,l.length<=k
 pos:0<s.st.binds.length
theorem okRk.up {k:Nat} {c:Ch} (h:okRk k c):okRk (k+1) c:=⟨by have:=h.nb; omega,by have:=h.nr; omega,h.tab,h.goal,h.rest,h.pos⟩
theorem okLp.mono {N M:Nat} {l:List Sp} (h:okLp N l) (hm:N<=M):okLp M l:=fun x hx=>⟨⟨gZ hm _ (h x hx).1.1,(h x hx).1.2⟩,(h x hx).2⟩
theorem okXk.up {k:Nat} {s:Se} (h:okXk k s):okXk (k+1) s:=
 ⟨by have:=h.nb; omega,by have:=h.ng; omega,by have:=h.nc; omega,by have:=h.ns; omega,h.tab,h.goals,fun c hc=>(h.chs c hc).up,h.steps,h.saved,fun l hl=>by have:=h.nv l hl; omega,h.pos⟩
theorem FirstL.of {p:List C} {chs:List Ch} {c:Ch} {l:List Int} {o:Option (St6 × Int × List Int)} (h:FirstL p chs c l o):∀ s i r,o=some (s,i,r)->
  ∃ (n:Nat) (cl:C) (st:ao),i=n/\p[n]?=some cl/\s=rO chs c cl [] st/\Uni (WU c.binds cl) (.one c.goal (cW c.binds.length cl.head)) true st:=by
 induction h with
 | nil=>intro s i r h; cases h
 | miss _ _ ih=>exact ih
 | hit ht=>
  intro s i r h
  simp only [bg,cT] at h
  obtain ⟨rfl,rfl,rfl⟩:=h
  cases ht with
  | hit hi hu=>exact ⟨_,_,_,rfl,hi,rfl,hu⟩
  | miss _ _ h=>cases h
theorem TakeR.okXk {p:List C} (hp:∀ cl∈p,WE cl) (hpl:p.length<=1000000) {k:Nat} {s s':Se} {c:Ch} (h:TakeR p s c (some s')) (hc:sz c) (hr:okRk k c) (hn:s.saved.length=s.st.chs.length)
  (hcs:∀ d∈s.st.chs,okRk k d) (hcn:s.st.chs.length<=k) (hst:okLp c.binds.length s.steps) (hsn:s.steps.length<=k)
  (hsv:∀ i (h:i<s.st.chs.length) (h':i<s.saved.length),okLp s.st.chs[i].binds.length s.saved[i]) (hsvn:∀ l∈s.saved,l.length<=k):okXk (k+1) s':=by
 cases h with
 | @yes u i l hF=>
  obtain ⟨n,cl,st,rfl,hi,rfl,hu⟩:=hF.of _ _ _ rfl
  have hm:=hp cl (b0 hi)
  obtain ⟨hg,_⟩:=hu.good (Bh hc cl) (NX hc hm.cf)
  have htab:tabM st:=hu.okM (hr.tab.grow _) ⟨hr.goal,qj _ _ hm.hd⟩
  have hlen:=hg.len
  have hfr:=hm.fr
  have hln:=hm.ln
  have hnb:=hr.nb
  have hnr:=hr.nr
  have hpos:=hr.pos
  have hrn:okRk (k+1) ⟨c.goal,c.rest,l,c.binds⟩:=okRk.up ⟨hnb,hnr,hr.tab,hr.goal,hr.rest,hpos⟩
  refine ⟨?_,?_,?_,?_,htab,?_,?_,?_,?_,?_,?_⟩
  ·simp only [n6,rO]; omega
  ·simp only [n6,rO,bx,jH]; omega
  ·simp only [n6,bx]; split <;> simp <;> omega
  ·simp only [n6,bx,pP]; omega
  ·intro g hg
   simp only [n6,rO] at hg
   rcases bJ.1 hg with hg|hg
   ·obtain ⟨t,ht,rfl⟩:=eF.1 hg
    exact qj _ _ (hm.bd t ht)
   ·exact hr.rest g hg
  ·intro d hd
   simp only [n6] at hd
   rcases bJ.1 hd with hd|hd
   ·exact (hcs d hd).up
   ·split at hd
    ·cases hd
    ·rw [bL] at hd
     subst hd
     exact hrn
  ·intro x hx
   simp only [n6,rO] at hx ⊢
   rcases bJ.1 hx with hx|hx
   ·exact hst.mono (by omega) x hx
   ·rw [bL] at hx
    subst hx
    simp only [cV,hi,Option.elim_some]
    exact ⟨⟨gZ (by omega) _ hc.goal.1,hc.goal.2⟩,by omega,by omega,by omega,by have:=(fG.1 hi).1; omega⟩
  ·intro j h1 h2
   simp only [n6] at h1 h2 ⊢
   by_cases hl:l=[]
   ·subst hl
    simp only [ai,dB] at h1 h2 ⊢
    exact hsv j h1 h2
   ·simp only [ah hl,bx,pP] at h1 h2 ⊢
    by_cases hk:j<s.st.chs.length
    ·rw [gt hk,gt (by omega)]
     exact hsv j hk (by omega)
    ·have hk1:j=s.st.chs.length:=by omega
     subst hk1
     rw [fP (aR _),fP (by omega)]
     simp only [hn,eD,mF]
     exact hst
  ·intro q hq
   simp only [n6] at hq
   rcases bJ.1 hq with hq|hq
   ·have:=hsvn q hq; omega
   ·split at hq
    ·cases hq
    ·rw [bL] at hq
     subst hq
     omega
  ·simp only [n6,rO]; omega
def okBL (cs:List Ch) (ss:List (List Sp)):Prop:=∀ i (h:i<cs.length) (h':i<ss.length),okLp cs[i].binds.length ss[i]
theorem okBL.last {cs:List Ch} {ss:List (List Sp)} {c:Ch} {t:List Sp} (h:okBL (cs++[c]) (ss++[t])) (hl:cs.length=ss.length):okBL cs ss/\okLp c.binds.length t:=by
 constructor
 ·intro i h1 h2
  have:=h i (by simp; omega) (by simp; omega)
  rw [gt h1,gt h2] at this
  exact this
 ·have:=h cs.length (by simp) (by simp [hl])
  rw [fP (aR _),fP (by omega)] at this
  simp only [hl,eD,mF] at this
  exact this
theorem BackR.okXk {p:List C} (hp:∀ cl∈p,WE cl) (hpl:p.length<=1000000) {k:Nat} {cs:List Ch} {ss:List (List Sp)} {o:Option Se} (h:BackR p cs ss o):cs.length=ss.length->(∀ c∈cs,sz c/\okRk k c)->cs.length<=k->okBL cs ss->(∀ l∈ss,l.length<=k)->∀ s,o=some s->Go.Proofs.YtgllldjiaglkcaaGreatDoor.okXk (k+1) s:=by
 induction h with
 | nil=>intro _ _ _ _ _ s h; cases h
 | hit ht=>
  intro hl hh hk hb hv s h
  simp only [bx,pP,xz] at hl hk
  rw [bg] at h
  subst h
  obtain ⟨h1,h2⟩:=hb.last hl
  exact ht.okXk hp hpl (hh _ (by simp)).1 (hh _ (by simp)).2 hl.symm (fun d hd=>(hh d (dg _ hd)).2) (by simp only; omega) h2 (hv _ (by simp)) h1 fun l hl=>hv l (dg _ hl)
 | miss _ _ ih=>
  intro hl hh hk hb hv
  simp only [bx,pP,xz] at hl hk
  exact ih hl (fun d hd=>hh d (dg _ hd)) (by omega) (hb.last hl).1 fun l hl=>hv l (dg _ hl)
theorem OneR.okXk {p:List C} (hp:∀ cl∈p,WE cl) (hpl:p.length<=1000000) {k:Nat} {s s':Se} {e:Int} (h:OneR p s s' e) (hs:Cl p.length s) (hx:okXk k s):okXk (k+1) s'/\(e=-2->s'=s):=by
 have hgo:=hs.st.goals
 have hgm:=hx.goals
 cases h with
 | big=>exact ⟨hx.up,fun _=>rfl⟩
 | stuck=>exact ⟨hx.up,fun _=>rfl⟩
 | fail=>exact ⟨hx.up,fun _=>rfl⟩
 | err=>exact ⟨hx.up,fun _=>rfl⟩
 | @took g rest u _ hg hu hsm _ _ ht=>
  rw [hg] at hgo hgm
  have hou:=l0 hs.st.good hu (hgo _ (aT ..)).1
  have hw:=gG hsm hou
  have hum:okM u:=Res.okM hx.tab hu (hgm _ (aT ..))
  have hng:=hx.ng
  rw [hg,bu] at hng
  refine ⟨ht.okXk hp hpl ⟨hs.st.good,⟨hou,by simp only; omega⟩,fun x hx=>hgo x (aS _ hx)⟩ ⟨hx.nb,by simp only; omega,hx.tab,hum,fun x hx=>hgm x (aS _ hx),hx.pos⟩ hs.len hx.chs hx.nc hx.steps hx.ns hx.saved hx.nv,fun e=>(by cases e)⟩
 | @solved g rest u st hg hu hsm _ hb hB=>
  rw [hg] at hgo hgm
  have hou:=l0 hs.st.good hu (hgo _ (aT ..)).1
  have hw:=gG hsm hou
  have hum:okM u:=Res.okM hx.tab hu (hgm _ (aT ..))
  have hgd:=hB.good hs.st.good hb ⟨hou,by omega⟩
  have hl:=hgd.len
  have hng:=hx.ng
  rw [hg,bu] at hng
  have hnb:=hx.nb
  have hns:=hx.ns
  have hpos:=hx.pos
  refine ⟨⟨by simp only; omega,by simp only; omega,by have:=hx.nc; simp only; omega,by simp only [bx,pP]; omega,hB.okM hx.tab hum,fun x h=>hgm x (aS _ h),fun c hc=>(hx.chs c hc).up,?_,hx.saved,fun l hl=>by have:=hx.nv l hl; omega,by simp only; omega⟩,fun e=>(by cases e)⟩
  intro x h
  simp only at h ⊢
  rw [hl]
  rcases bJ.1 h with h|h
  ·exact hx.steps x h
  ·rw [bL] at h
   subst h
   exact ⟨⟨hou,by simp only; omega⟩,by simp,by simp,by simp,by simp⟩
theorem Srch.okXk {p:List C} (hp:∀ cl∈p,WE cl) (hpl:p.length<=1000000) {n:Nat} {s:Se} {o:Option Se} (h:Srch p n s o):∀ k,Cl p.length s->Go.Proofs.YtgllldjiaglkcaaGreatDoor.okXk k s->∀ t,o=some t->Go.Proofs.YtgllldjiaglkcaaGreatDoor.okXk (k+n) t:=by
 induction h with
 | @done n s hg=>
  intro k h1 h2 t h
  rw [bg] at h
  subst h
  induction n with
  | zero=>exact h2
  | succ n ih=>exact ih.up
 | out=>intro _ _ _ t h; cases h
 | halt=>intro _ _ _ t h; cases h
 | stop=>intro _ _ _ t h; cases h
 | @step n _ _ _ hg h1 _ ih=>
  intro k hs hx t h
  have:=ih (k+1) (h1.ok (fun cl hc=>(hp cl hc).cf) hs) (h1.okXk hp hpl hs hx).1 t h
  rwa [show k+(n+1)=k+1+n by omega]
 | @back n _ s' _ _ hg h1 h2 _ ih=>
  intro k hs hx t h
  have hs':=h1.ok (fun cl hc=>(hp cl hc).cf) hs
  have e:=(h1.okXk hp hpl hs hx).2 rfl
  subst e
  have:=ih (k+1) (h2.ok (fun cl hc=>(hp cl hc).cf) hs.len.symm hs.st.chs hs.left _ rfl) (h2.okXk hp hpl hs.len.symm (fun c hc=>⟨hs.st.chs c hc,hx.chs c hc⟩) hx.nc hx.saved hx.nv _ rfl) t h
  rwa [show k+(n+1)=k+1+n by omega]
end
end Go.Proofs.YtgllldjiaglkcaaGreatDoor
