/- spec: states of the search (goals, bindings, choices); l6Start. -/
import Derived.Test.YtfcbhfjomgopbaaGreatZT17
import Derived.Test.YtfcbhfjomgopbaaGreatZT18
import Derived.Test.YtfcbhfjomgopbaaGreatZT11
namespace Go.Proofs.YtfcbhfjomgopbaaGreat
open Go Go.RowKit
structure Ch where
 goal:T
 rest:List (T × Int)
 left:List Int
 binds:bf
structure St6 where
 goals:List (T × Int)
 binds:bf
 chs:List Ch
def RdCh (S:al) (cs:List Value) (c:Ch):Prop:=∃ hd g l b,cs=hd++[g,l,b]/\RdT S hd c.goal/\RdSl S 5 (RdG S) g c.rest/\RdSl S 1 gt l c.left/\RdSl S 4 (RdO S) b c.binds
theorem RdSl.sl {α:Type} {S:al} {k:Nat} {R:List Value->α->Prop} {v:Value} {xs:List α} (h:RdSl S k R v xs):v.oneCell'=true:=by
 obtain ⟨a,m,rfl,_⟩:=h; rfl
theorem RdSl.monoO {S S':al} {v:Value} {st:bf} (hs:Sle S S') (h:RdSl S 4 (RdO S) v st):RdSl S' 4 (RdO S') v st:=h.mono hs fun _ _=>RdO.mono hs
theorem RdCh.length {S:al} {cs:List Value} {c:Ch} (h:RdCh S cs c):cs.length=7:=by
 obtain ⟨hd,g,l,b,rfl,h,_⟩:=h; simp [h.length]
theorem RdCh.one {S:al} {cs:List Value} {c:Ch} (h:RdCh S cs c):∀ u∈cs,u.oneCell'=true:=by
 obtain ⟨hd,g,l,b,rfl,h,h1,h2,h3⟩:=h
 intro u hu
 rcases List.mem_append.1 hu with hu|hu
 ·exact h.one u hu
 ·simp only [List.mem_cons,List.not_mem_nil,or_false] at hu
  rcases hu with rfl|rfl|rfl
  ·exact h1.sl
  ·exact h2.sl
  ·exact h3.sl
theorem RdCh.mono {S S':al} {cs:List Value} {c:Ch} (hs:Sle S S') (h:RdCh S cs c):RdCh S' cs c:=by
 obtain ⟨hd,g,l,b,rfl,h,h1,h2,h3⟩:=h
 exact ⟨hd,g,l,b,rfl,h.mono hs,h1.monoG hs,h2.mono hs fun _ _ h=>h,h3.monoO hs⟩
theorem RdSl.monoCh {S S':al} {v:Value} {cs:List Ch} (hs:Sle S S') (h:RdSl S 7 (RdCh S) v cs):RdSl S' 7 (RdCh S') v cs:=h.mono hs fun _ _=>RdCh.mono hs
def RdS6 (S:al) (cs:List Value) (s:St6):Prop:=∃ g b c,cs=[g,b,c]/\RdSl S 5 (RdG S) g s.goals/\RdSl S 4 (RdO S) b s.binds/\RdSl S 7 (RdCh S) c s.chs
theorem RdS6.length {S:al} {cs:List Value} {s:St6} (h:RdS6 S cs s):cs.length=3:=by
 obtain ⟨g,b,c,rfl,_⟩:=h; rfl
theorem RdS6.one {S:al} {cs:List Value} {s:St6} (h:RdS6 S cs s):∀ u∈cs,u.oneCell'=true:=by
 obtain ⟨g,b,c,rfl,h1,h2,h3⟩:=h
 intro u hu
 simp only [List.mem_cons,List.not_mem_nil,or_false] at hu
 rcases hu with rfl|rfl|rfl
 ·exact h1.sl
 ·exact h2.sl
 ·exact h3.sl
theorem RdS6.mono {S S':al} {cs:List Value} {s:St6} (hs:Sle S S') (h:RdS6 S cs s):RdS6 S' cs s:=by
 obtain ⟨g,b,c,rfl,h1,h2,h3⟩:=h
 exact ⟨g,b,c,rfl,h1.monoG hs,h2.monoO hs,h3.monoCh hs⟩
theorem RdSl.nil0 {α:Type} (S:al) (k:Nat) (R:List Value->α->Prop):RdSl S k R (.slice none 0 0) []:=⟨none,0,rfl,Nat.le_refl _,Nat.zero_le _,.inl rfl⟩
section
variable {w:World} {K:Value->World->Prop}
attribute [local irreducible] Run
theorem AJ {a:Option Addr} {n m:Nat} (hk:K (.agg #[.slice none 0 0,.slice a n m,.slice none 0 0]) w) :
  Run Tryz.prog (bD bU [(1,.slice a n m)]) w K:=by
 refine Run.of (v:=.agg #[.slice none 0 0,.slice a n m,.slice none 0 0]) (w':=w) ?_ hk
 unfold bD
 rw [Sem.run_bind,run_build w bU _ #[.slice none 0 0,.slice a n m,.slice none 0 0] (by kernel_rfl),Result.andThen_ok]
 rfl
end
section
attribute [local irreducible] Run CondV ag aO
abbrev M8 (s:St6):Value->List Item->al->Prop:=fun q I' S'=>I'=[]/\∃ cs,q=.agg cs.toArray/\RdS6 S' cs s
theorem AD {ts:List T} {S:al} {v:Value} (h:RdSl S 4 (RdT S) v ts) (ho:∀ t∈ts,okU 26 t/\wT t<=1048576) (hl:ts.length<=1000000) :
  Tri Tryz.prog EP [v] [] S (M8 ⟨ts.map (fun t=>(ct 0 t,0)),List.replicate 26 none,[]⟩):=by
 intro w hI
 refine wo ?_
 unfold rI
 refine bi hI fx fun b2 w' hI=>?_
 refine Ct (n:=26) hI bO (by omega) (by omega) (by omega) fun kb w' hI=>?_
 have hk:=KnU.zero _ rfl S 26
 obtain ⟨S1,hI,hE,hkb⟩:=Inv.pub1 (A:=[_]) hI
 have hkr:RdSl S1 4 (RdO S) (.slice (some ⟨kb,0,none⟩) 26 26) (List.replicate 26 none):=hk.rd (cap:=26) hkb (by simp) (by simp [maxLen])
 refine AJ ?_
 refine bi hI fx fun b3 w' hI=>?_
 have hI:Inv w [] [.blk b2 (.cells #[.slice none 0 0,.slice none 0 0,.slice none 0 0] bU),.blk b3 (.cells #[.slice none 0 0,.slice none 0 0,.slice none 0 0] bU)] S1 w':=hI
 refine aG hI 1 rfl cb rfl rfl (by simp [Value.oneCell']) fun w' hI=>?_
 refine Run.call0E rC r7 hI (oV (N:=26) (by omega) 0 (by omega) (by omega) 0 (h.monoT hE.1) (RdSl.nil0 ..) ho hl (by simp)) fun v' I' S2 w'=>?_
 rintro ⟨rfl,hg⟩ hE2 hI
 rw [List.append_nil] at hg
 obtain ⟨ga,gm,rfl,_⟩:=id hg
 have hI:Inv w [] [.blk b2 (.cells #[.slice none 0 0,.slice none 0 0,.slice none 0 0] bU),.blk b3 (.cells #[.slice none 0 0,.slice (some ⟨kb,0,none⟩) 26 26,.slice none 0 0] bU)] S2 w':=hI
 refine cM hI 1 rfl eZ eG rfl rfl rfl fun w' hI=>?_
 refine aL hI 1 cb rfl rfl ?_
 refine aG hI 0 rfl cb rfl rfl (by simp [Value.oneCell']) fun w' hI=>?_
 refine bE hI 0 cb rfl rfl ?_
 exact ⟨_,_,_,rfl,hI.pick [false,false],hE.trans hE2,rfl,_,rfl,_,_,_,rfl,hg,(hkr.mono hE2.1 fun _ _ h=>RdO.mono (hE.1.trans hE2.1) h),RdSl.nil0 ..⟩
end
end Go.Proofs.YtfcbhfjomgopbaaGreat

/- the search of the spec in plain Lean: a step that takes a clause (l6Try). -/
namespace Go.Proofs.YtfcbhfjomgopbaaGreat
open Go Go.RowKit
theorem Good.grow {N:Nat} {st:bf} (h:Good N st) (k:Nat):Good (N+k) (st++List.replicate k none):=by
 have hm:∀ t,some t∈st++List.replicate k none->some t∈st:=fun t ht=>by
  rcases List.mem_append.1 ht with ht|ht
  ·exact ht
  ·have:=List.eq_of_mem_replicate ht
   cases this
 obtain ⟨r,hr⟩:=h.rk
 refine ⟨by simp [h.len],fun t ht=>iO (Nat.le_add_right ..) t (h.ok t (hm t ht)),fun t ht=>h.w t (hm t ht),r,fun n u hu=>?_⟩
 refine hr n u ?_
 rw [List.getElem?_append] at hu
 split at hu
 ·exact hu
 ·have:=List.eq_of_mem_replicate (List.mem_of_getElem? hu)
  cases this
/- the table in which the clause's variables are new -/
def wu (b:bf) (cl:C):bf:=b++List.replicate (gL cl).toNat none
/- clauses whose variables are all below freshC -/
def pJ (cl:C):Prop:=(okU (gL cl).toNat cl.head/\wT cl.head<=1048576)/\∀ t∈cl.body,okU (gL cl).toNat t/\wT t<=1048576
def jq (chs:List Ch) (c:Ch) (cl:C) (l:List Int) (st:bf):St6:=
 ⟨cl.body.map (fun t=>(ct c.binds.length t,(chs.length:Int)))++c.rest,st,chs++(if l=[] then [] else [⟨c.goal,c.rest,l,c.binds⟩])⟩
inductive TryL (p:List C) (chs:List Ch) (c:Ch):List Int->Option St6->Prop
 | nil:TryL p chs c [] none
 | hit {i:Nat} {l:List Int} {cl:C} {st:bf}:p[i]?=some cl->Uni (wu c.binds cl) (.one c.goal (ct c.binds.length cl.head)) true st->TryL p chs c ((i:Int)::l) (some (jq chs c cl l st))
 | miss {i:Nat} {l:List Int} {cl:C} {st:bf} {o:Option St6}:p[i]?=some cl->Uni (wu c.binds cl) (.one c.goal (ct c.binds.length cl.head)) false st->TryL p chs c l o->TryL p chs c ((i:Int)::l) o
theorem TryL.inv {p:List C} {chs:List Ch} {c:Ch} {x:Int} {l:List Int} {o:Option St6} (h:TryL p chs c (x::l) o) :
  ∃ (i:Nat) (cl:C) (r:Bool) (st:bf),x=i/\p[i]?=some cl/\Uni (wu c.binds cl) (.one c.goal (ct c.binds.length cl.head)) r st/\((r=true/\o=some (jq chs c cl l st)) ∨ (r=false/\TryL p chs c l o)):=by
 cases h with
 | hit h1 h2=>exact ⟨_,_,_,_,rfl,h1,h2,.inl ⟨rfl,rfl⟩⟩
 | miss h1 h2 h3=>exact ⟨_,_,_,_,rfl,h1,h2,.inr ⟨rfl,h3⟩⟩
/- a choice is good: its table, its goal, what is left of the goals -/
structure ix (c:Ch):Prop where
 good:Good c.binds.length c.binds
 goal:okU c.binds.length c.goal/\wT c.goal<=1048576
 rest:∀ g∈c.rest,okU c.binds.length g.1/\wT g.1<=1048576
structure Nb (s:St6):Prop where
 good:Good s.binds.length s.binds
 goals:∀ g∈s.goals,okU s.binds.length g.1/\wT g.1<=1048576
 chs:∀ c∈s.chs,ix c
theorem nG {c:Ch} (hc:ix c) (cl:C):Good (c.binds.length+(gL cl).toNat) (wu c.binds cl):=hc.good.grow _
theorem wN {c:Ch} {cl:C} (hc:ix c) (hcl:pJ cl):okJ (c.binds.length+(gL cl).toNat) (.one c.goal (ct c.binds.length cl.head)):=by
 refine ⟨⟨iO (Nat.le_add_right ..) _ hc.goal.1,hc.goal.2⟩,?_,?_⟩
 ·have:=j7 c.binds.length cl.head hcl.1.1
  rw [Nat.add_comm] at this
  exact this
 ·rw [l4]; exact hcl.1.2
theorem TryL.ex {p:List C} (hp:∀ cl∈p,pJ cl) (chs:List Ch) {c:Ch} (hc:ix c):∀ l:List Int,(∀ i∈l,0<=i/\i<p.length)->∃ o,TryL p chs c l o
 | [],_=>⟨none,.nil⟩
 | i::l,hl=>by
  obtain ⟨h0,h1⟩:=hl i (List.mem_cons_self ..)
  obtain ⟨n,rfl⟩:∃ n:Nat,i=n:=⟨i.toNat,by omega⟩
  have hn:n<p.length:=by omega
  have hg:p[n]?=some p[n]:=List.getElem?_eq_getElem hn
  have hcl:=hp _ (List.getElem_mem hn)
  obtain ⟨r,st,hu⟩:=Cz _ _ (nG hc p[n]) (Nat.le_refl _) _ (wN hc hcl)
  cases r with
  | true=>exact ⟨_,.hit hg hu⟩
  | false=>
   obtain ⟨o,ho⟩:=TryL.ex hp chs hc l fun i hi=>hl i (List.mem_cons_of_mem _ hi)
   exact ⟨o,.miss hg hu ho⟩
theorem TryL.ok {p:List C} (hp:∀ cl∈p,pJ cl) {chs:List Ch} (hh:∀ c∈chs,ix c) {c:Ch} (hc:ix c) {l:List Int} {o:Option St6} (h:TryL p chs c l o):∀ s,o=some s->Nb s:=by
 induction h with
 | nil=>intro s h; cases h
 | miss _ _ _ ih=>exact ih
 | @hit i l cl st hi hu=>
  intro s hs
  simp only [Option.some.injEq] at hs
  subst hs
  have hcl:=hp _ (List.mem_of_getElem? hi)
  obtain ⟨hg,_⟩:=hu.good (nG hc cl) (wN hc hcl)
  have hlen:=hg.len
  refine ⟨by rw [jq,hlen]; exact hg,fun g hm=>?_,fun d hd=>?_⟩
  ·rw [jq] at hm ⊢
   simp only at hm ⊢
   rw [hlen]
   rcases List.mem_append.1 hm with hm|hm
   ·obtain ⟨t,ht,rfl⟩:=List.mem_map.1 hm
    obtain ⟨q1,q2⟩:=hcl.2 t ht
    have:=j7 c.binds.length t q1
    rw [Nat.add_comm] at this
    exact ⟨this,by rw [l4]; exact q2⟩
   ·exact ⟨iO (Nat.le_add_right ..) _ (hc.rest g hm).1,(hc.rest g hm).2⟩
  ·rw [jq] at hd
   rcases List.mem_append.1 hd with hd|hd
   ·exact hh d hd
   ·split at hd
    ·cases hd
    ·rw [List.mem_singleton] at hd
     subst hd
     exact ⟨hc.good,hc.goal,hc.rest⟩
end Go.Proofs.YtfcbhfjomgopbaaGreat

/- the search of the spec in plain Lean: first clause that fits, taking a choice, going back. -/
namespace Go.Proofs.YtfcbhfjomgopbaaGreat
open Go Go.RowKit
/- a step of the proof so far: the goal, its clause (or -1), how many goals the clause's body has -/
structure Sp where
 goal:T
 clause:Int
 body:Int
structure Se where
 st:St6
 steps:List Sp
 saved:List (List Sp)
/- l13First: the clauses in turn, one at a time -/
inductive FirstL (p:List C) (chs:List Ch) (c:Ch):List Int->Option (St6 × Int × List Int)->Prop
 | nil:FirstL p chs c [] none
 | hit {i:Int} {l:List Int} {s:St6}:TryL p chs c [i] (some s)->FirstL p chs c (i::l) (some (s,i,l))
 | miss {i:Int} {l:List Int} {o:Option (St6 × Int × List Int)}:TryL p chs c [i] none->FirstL p chs c l o->FirstL p chs c (i::l) o
theorem FirstL.ex {p:List C} (hp:∀ cl∈p,pJ cl) (chs:List Ch) {c:Ch} (hc:ix c):∀ l:List Int,(∀ i∈l,0<=i/\i<p.length)->∃ o,FirstL p chs c l o
 | [],_=>⟨none,.nil⟩
 | i::l,hl=>by
  obtain ⟨o,ho⟩:=TryL.ex hp chs hc [i] fun j hj=>by
   rw [List.mem_singleton] at hj
   subst hj
   exact hl j (List.mem_cons_self ..)
  cases o with
  | some s=>exact ⟨_,.hit ho⟩
  | none=>
   obtain ⟨o,h2⟩:=FirstL.ex hp chs hc l fun j hj=>hl j (List.mem_cons_of_mem _ hj)
   exact ⟨o,.miss ho h2⟩
theorem FirstL.ok {p:List C} (hp:∀ cl∈p,pJ cl) {chs:List Ch} (hh:∀ c∈chs,ix c) {c:Ch} (hc:ix c) {l:List Int} {o:Option (St6 × Int × List Int)} (h:FirstL p chs c l o) :
  ∀ s i r,o=some (s,i,r)->Nb s/\i∈l/\(∀ j∈r,j∈l):=by
 induction h with
 | nil=>intro s i r h; cases h
 | miss _ _ ih=>
  intro s i r h
  obtain ⟨h1,h2,h3⟩:=ih s i r h
  exact ⟨h1,List.mem_cons_of_mem _ h2,fun j hj=>List.mem_cons_of_mem _ (h3 j hj)⟩
 | hit ht=>
  intro s i r h
  simp only [Option.some.injEq,Prod.mk.injEq] at h
  obtain ⟨rfl,rfl,rfl⟩:=h
  exact ⟨ht.ok hp hh hc _ rfl,List.mem_cons_self ..,fun j hj=>List.mem_cons_of_mem _ hj⟩
/- l13Take -/
def gA (p:List C) (s:Se) (c:Ch) (u:St6) (i:Int) (l:List Int):Se:=
 ⟨⟨u.goals,u.binds,s.st.chs++(if l=[] then [] else [⟨c.goal,c.rest,l,c.binds⟩])⟩,s.steps++[⟨c.goal,i,((p[i.toNat]?).elim 0 fun cl=>(cl.body.length:Int))⟩],s.saved++(if l=[] then [] else [s.steps])⟩
inductive TakeR (p:List C) (s:Se) (c:Ch):Option Se->Prop
 | no:FirstL p s.st.chs c c.left none->TakeR p s c none
 | yes {u:St6} {i:Int} {l:List Int}:FirstL p s.st.chs c c.left (some (u,i,l))->TakeR p s c (some (gA p s c u i l))
/- a search is good -/
structure jN (n:Nat) (s:Se):Prop where
 st:Nb s.st
 left:∀ c∈s.st.chs,∀ i∈c.left,0<=i/\i<n
 len:s.saved.length=s.st.chs.length
theorem TakeR.ex {p:List C} (hp:∀ cl∈p,pJ cl) (s:Se) {c:Ch} (hc:ix c) (hl:∀ i∈c.left,0<=i/\i<p.length):∃ o,TakeR p s c o:=by
 obtain ⟨o,ho⟩:=FirstL.ex hp s.st.chs hc c.left hl
 cases o with
 | none=>exact ⟨_,.no ho⟩
 | some x=>exact ⟨_,.yes (u:=x.1) (i:=x.2.1) (l:=x.2.2) ho⟩
theorem TakeR.ok {p:List C} (hp:∀ cl∈p,pJ cl) {s:Se} (hh:∀ c∈s.st.chs,ix c) (hf:∀ c∈s.st.chs,∀ i∈c.left,0<=i/\i<p.length) (hn:s.saved.length=s.st.chs.length) {c:Ch} (hc:ix c)
  (hl:∀ i∈c.left,0<=i/\i<p.length) {o:Option Se} (h:TakeR p s c o):∀ s',o=some s'->jN p.length s':=by
 intro s' hs
 cases h with
 | no _=>cases hs
 | @yes u i l hF=>
  simp only [Option.some.injEq] at hs
  subst hs
  obtain ⟨h1,h2,h3⟩:=hF.ok hp hh hc u i l rfl
  refine ⟨⟨h1.good,h1.goals,fun d hd=>?_⟩,fun d hd j hj=>?_,?_⟩
  ·rcases List.mem_append.1 hd with hd|hd
   ·exact hh d hd
   ·split at hd
    ·cases hd
    ·rw [List.mem_singleton] at hd
     subst hd
     exact ⟨hc.good,hc.goal,hc.rest⟩
  ·rcases List.mem_append.1 hd with hd|hd
   ·exact hf d hd j hj
   ·split at hd
    ·cases hd
    ·rw [List.mem_singleton] at hd
     subst hd
     exact hl j (h3 j hj)
  ·simp only [gA,List.length_append]
   split <;> simp [hn]
/- l13Back: the choices from the last one -/
inductive BackR (p:List C):List Ch->List (List Sp)->Option Se->Prop
 | nil {ss:List (List Sp)}:BackR p [] ss none
 | hit {cs:List Ch} {ss:List (List Sp)} {c:Ch} {t:List Sp} {s:Se}:TakeR p ⟨⟨[],[],cs⟩,t,ss⟩ c (some s)->BackR p (cs++[c]) (ss++[t]) (some s)
 | miss {cs:List Ch} {ss:List (List Sp)} {c:Ch} {t:List Sp} {o:Option Se}:TakeR p ⟨⟨[],[],cs⟩,t,ss⟩ c none->BackR p cs ss o->BackR p (cs++[c]) (ss++[t]) o
theorem BackR.ex {p:List C} (hp:∀ cl∈p,pJ cl):∀ (n:Nat) (cs:List Ch) (ss:List (List Sp)),cs.length=n->ss.length=n->(∀ c∈cs,ix c)->(∀ c∈cs,∀ i∈c.left,0<=i/\i<p.length)->
  ∃ o,BackR p cs ss o/\∀ s,o=some s->jN p.length s:=by
 intro n
 induction n with
 | zero=>
  intro cs ss h _ _ _
  have:=List.eq_nil_of_length_eq_zero h
  subst this
  exact ⟨none,.nil,fun s h=>by cases h⟩
 | succ n ih=>
  intro cs ss h1 h2 hh hf
  obtain ⟨cs,c,rfl⟩:=List.eq_nil_or_concat cs |>.resolve_left fun e=>by rw [e] at h1; cases h1
  obtain ⟨ss,t,rfl⟩:=List.eq_nil_or_concat ss |>.resolve_left fun e=>by rw [e] at h2; cases h2
  simp only [List.concat_eq_append,List.length_append,List.length_singleton,Nat.add_right_cancel_iff] at h1 h2 hh hf ⊢
  have hc:=hh c (by simp)
  have hl:=hf c (by simp)
  have hh':∀ c∈cs,ix c:=fun d hd=>hh d (List.mem_append_left _ hd)
  have hf':∀ c∈cs,∀ i∈c.left,0<=i/\i<p.length:=fun d hd=>hf d (List.mem_append_left _ hd)
  obtain ⟨o,ho⟩:=TakeR.ex hp ⟨⟨[],[],cs⟩,t,ss⟩ hc hl
  cases o with
  | some s=>exact ⟨_,.hit ho,fun s' e=>ho.ok hp hh' hf' (by simp only; omega) hc hl s' e⟩
  | none=>
   obtain ⟨o,h3,h4⟩:=ih cs ss h1 h2 hh' hf'
   exact ⟨o,.miss ho h3,h4⟩
end Go.Proofs.YtfcbhfjomgopbaaGreat

/- the search of the spec in plain Lean: one step (l13One). -/
namespace Go.Proofs.YtfcbhfjomgopbaaGreat
open Go Go.RowKit
def xW (p:List C) (g:T):List Int:=jw (fun c=>CL (gE c.head) (gE g)) p 0
theorem Dv (p:List C) (g:T):∀ i∈xW p g,0<=i/\i<p.length:=by
 intro i hi
 obtain ⟨j,h0,rfl,hj,_⟩:=FG _ p 0 i hi
 omega
inductive OneR (p:List C) (s:Se):Se->Int->Prop
 | big {g:T × Int} {rest:List (T × Int)} {u:T}:s.st.goals=g::rest->Res s.st.binds (.one g.1 u)->(cB u=false ∨ jL u=true)->OneR p s s 0
 | took {g:T × Int} {rest:List (T × Int)} {u:T} {s':Se}:s.st.goals=g::rest->Res s.st.binds (.one g.1 u)->cB u=true->jL u=false->dx u=false->
   TakeR p s ⟨u,rest,xW p u,s.st.binds⟩ (some s')->OneR p s s' (-1)
 | stuck {g:T × Int} {rest:List (T × Int)} {u:T}:s.st.goals=g::rest->Res s.st.binds (.one g.1 u)->cB u=true->jL u=false->dx u=false->
   TakeR p s ⟨u,rest,xW p u,s.st.binds⟩ none->OneR p s s (-2)
 | fail {g:T × Int} {rest:List (T × Int)} {u:T} {st:bf}:s.st.goals=g::rest->Res s.st.binds (.one g.1 u)->cB u=true->jL u=false->dx u=true->
   Blt s.st.binds u 1 st->OneR p s s (-2)
 | err {g:T × Int} {rest:List (T × Int)} {u:T} {st:bf} {c:Int}:s.st.goals=g::rest->Res s.st.binds (.one g.1 u)->cB u=true->jL u=false->dx u=true->
   Blt s.st.binds u c st->c≠0->c≠1->OneR p s s 0
 | solved {g:T × Int} {rest:List (T × Int)} {u:T} {st:bf}:s.st.goals=g::rest->Res s.st.binds (.one g.1 u)->cB u=true->jL u=false->dx u=true->
   Blt s.st.binds u 0 st->OneR p s ⟨⟨rest,st,s.st.chs⟩,s.steps++[⟨u,-1,0⟩],s.saved⟩ (-1)
theorem OneR.ex {p:List C} (hp:∀ cl∈p,pJ cl) {s:Se} (hs:jN p.length s) (hg:s.st.goals≠[]):∃ s' k,OneR p s s' k/\jN p.length s':=by
 obtain ⟨g,rest,hgr⟩:∃ g rest,s.st.goals=g::rest:=by
  cases h:s.st.goals with
  | nil=>exact absurd h hg
  | cons g rest=>exact ⟨g,rest,rfl⟩
 have hgo:=hs.st.goals
 rw [hgr] at hgo
 have hg1:=hgo g (List.mem_cons_self ..)
 obtain ⟨us,hus⟩:=ym hs.st.good [g.1] (by simp only [df]; exact ⟨hg1.1,trivial⟩)
 obtain ⟨u,hu⟩:∃ u,Res s.st.binds (.one g.1 u):=by
  cases hus with
  | cons h _=>exact ⟨_,h⟩
 have hou:okU s.st.binds.length u:=jt hs.st.good hu hg1.1
 cases hsm:cB u with
 | false=>exact ⟨_,_,.big hgr hu (.inl hsm),hs⟩
 | true=>
  have hw:=jg hsm hou
  cases hc:jL u with
  | true=>exact ⟨_,_,.big hgr hu (.inr hc),hs⟩
  | false=>
   cases hb:dx u with
   | false=>
    have hch:ix ⟨u,rest,xW p u,s.st.binds⟩:=⟨hs.st.good,⟨hou,by simp only; omega⟩,fun x hx=>hgo x (List.mem_cons_of_mem _ hx)⟩
    obtain ⟨o,ho⟩:=TakeR.ex hp s hch (Dv p u)
    cases o with
    | none=>exact ⟨_,_,.stuck hgr hu hsm hc hb ho,hs⟩
    | some s'=>exact ⟨_,_,.took hgr hu hsm hc hb ho,ho.ok hp hs.st.chs hs.left hs.len hch (Dv p u) _ rfl⟩
   | true=>
    obtain ⟨c,st,hB⟩:=Blt.ex hs.st.good hb ⟨hou,by omega⟩
    by_cases h1:c=1
    ·subst h1
     exact ⟨_,_,.fail hgr hu hsm hc hb hB,hs⟩
    by_cases h0:c=0
    ·subst h0
     refine ⟨_,_,.solved hgr hu hsm hc hb hB,?_⟩
     have hgd:=hB.good hs.st.good hb ⟨hou,by omega⟩
     have hl:=hgd.len
     exact ⟨⟨by simp only [hl]; exact hgd,fun x hx=>by simp only [hl]; exact hgo x (List.mem_cons_of_mem _ hx),hs.st.chs⟩,hs.left,hs.len⟩
    ·exact ⟨_,_,.err hgr hu hsm hc hb hB h0 h1,hs⟩
end Go.Proofs.YtfcbhfjomgopbaaGreat

/- the search of the spec in plain Lean: the loop (l13Find's first half). -/
namespace Go.Proofs.YtfcbhfjomgopbaaGreat
open Go Go.RowKit
inductive Srch (p:List C):Nat->Se->Option Se->Prop
 | done {n:Nat} {s:Se}:s.st.goals=[]->Srch p n s (some s)
 | out {s:Se}:s.st.goals≠[]->Srch p 0 s none
 | halt {n:Nat} {s s':Se}:s.st.goals≠[]->OneR p s s' 0->Srch p (n+1) s none
 | step {n:Nat} {s s':Se} {o:Option Se}:s.st.goals≠[]->OneR p s s' (-1)->Srch p n s' o->Srch p (n+1) s o
 | stop {n:Nat} {s s':Se}:s.st.goals≠[]->OneR p s s' (-2)->BackR p s'.st.chs s'.saved none->Srch p (n+1) s none
 | back {n:Nat} {s s' t:Se} {o:Option Se}:s.st.goals≠[]->OneR p s s' (-2)->BackR p s'.st.chs s'.saved (some t)->Srch p n t o->Srch p (n+1) s o
theorem OneR.code {p:List C} {s s':Se} {k:Int} (h:OneR p s s' k):k=0 ∨ k=-1 ∨ k=-2:=by
 cases h <;> simp
theorem Srch.ex {p:List C} (hp:∀ cl∈p,pJ cl):∀ (n:Nat) (s:Se),jN p.length s->∃ o,Srch p n s o/\∀ t,o=some t->jN p.length t:=by
 intro n
 induction n with
 | zero=>
  intro s hs
  by_cases hg:s.st.goals=[]
  ·exact ⟨_,.done hg,fun t h=>by rw [Option.some.injEq] at h; subst h; exact hs⟩
  ·exact ⟨_,.out hg,fun t h=>by cases h⟩
 | succ n ih=>
  intro s hs
  by_cases hg:s.st.goals=[]
  ·exact ⟨_,.done hg,fun t h=>by rw [Option.some.injEq] at h; subst h; exact hs⟩
  obtain ⟨s',k,h1,h2⟩:=OneR.ex hp hs hg
  rcases h1.code with rfl|rfl|rfl
  ·exact ⟨_,.halt hg h1,fun t h=>by cases h⟩
  ·obtain ⟨o,h3,h4⟩:=ih s' h2
   exact ⟨o,.step hg h1 h3,h4⟩
  ·obtain ⟨o,h3,h4⟩:=BackR.ex hp _ s'.st.chs s'.saved rfl h2.len h2.st.chs h2.left
   cases o with
   | none=>exact ⟨_,.stop hg h1 h3,fun t h=>by cases h⟩
   | some t=>
    obtain ⟨o,h5,h6⟩:=ih t (h4 t rfl)
    exact ⟨o,.back hg h1 h3 h5,h6⟩
/- the first state -/
def ft (t:T):Se:=⟨⟨[(ct 0 t,0)],List.replicate 26 none,[]⟩,[],[]⟩
theorem BB {t:T} (ho:okU 26 t) (hw:wT t<=1048576) (n:Nat):jN n (ft t):=by
 refine ⟨⟨?_,fun g hg=>?_,fun c hc=>(by cases hc)⟩,fun c hc=>(by cases hc),rfl⟩
 ·have:=(⟨by simp,fun t ht=>by simp at ht,fun t ht=>by simp at ht,fun n=>n,fun n u hu=>by
   have:=List.mem_of_getElem? hu
   simp at this⟩:Good 26 (List.replicate 26 none))
  simp only [ft,List.length_replicate]
  exact this
 ·simp only [ft,List.mem_singleton] at hg
  subst hg
  simp only [ft,List.length_replicate]
  have:=j7 0 t ho
  exact ⟨this,by rw [l4]; exact hw⟩
end Go.Proofs.YtfcbhfjomgopbaaGreat

/- the steps of the search are a proof in preorder: how many goals are still open after them. -/
namespace Go.Proofs.YtfcbhfjomgopbaaGreat
open Go Go.RowKit
def j9:List Sp->Int
 | []=>1
 | x::xs=>x.body - 1+j9 xs
theorem uE:∀ (a b:List Sp),j9 (a++b)=j9 a+j9 b - 1
 | [],b=>by rw [List.nil_append,j9]; omega
 | x::a,b=>by rw [List.cons_append,j9,j9,uE a b]; omega
theorem tI (a:List Sp) (x:Sp):j9 (a++[x])=j9 a+x.body - 1:=by
 rw [uE]
 simp only [j9]
 omega
/- every proper prefix leaves a goal open -/
def openP (l:List Sp):Prop:=∀ a b,l=a++b->b≠[]->0<j9 a
theorem openP.nil:openP []:=by
 intro a b h hb
 have:=congrArg List.length h
 cases b with
 | nil=>exact absurd rfl hb
 | cons y b=>simp at this
theorem openP.snoc {l:List Sp} (h:openP l) (hp:0<j9 l) (x:Sp):openP (l++[x]):=by
 intro a b e hb
 obtain ⟨b',y,rfl⟩:=(List.eq_nil_or_concat b).resolve_left hb
 rw [List.concat_eq_append,<- List.append_assoc] at e
 have e2:=List.append_inj_left' e (by simp)
 subst e2
 cases b' with
 | nil=>rw [List.append_nil] at hp; exact hp
 | cons z b'=>exact h a (z::b') rfl (by simp)
/- goals and steps agree -/
structure okP (s:Se):Prop where
 goals:(s.st.goals.length:Int)=j9 s.steps
 openP:openP s.steps
 saved:∀ i (h:i<s.st.chs.length) (h':i<s.saved.length),(s.st.chs[i].rest.length:Int)+1=j9 s.saved[i]/\Go.Proofs.YtfcbhfjomgopbaaGreat.openP s.saved[i]
theorem pd (t:T):okP (ft t):=⟨rfl,openP.nil,fun i h=>by simp [ft] at h⟩
def Io (p:List C) (i:Int):Int:=(p[i.toNat]?).elim 0 fun cl=>(cl.body.length:Int)
theorem TryL.goals {p:List C} {chs:List Ch} {c:Ch} {i:Int} {s:St6} (h:TryL p chs c [i] (some s)):(s.goals.length:Int)=Io p i+c.rest.length:=by
 cases h with
 | hit hi _=>simp [jq,Io,hi]
 | miss _ _ h=>cases h
theorem FirstL.goals {p:List C} {chs:List Ch} {c:Ch} {l:List Int} {o:Option (St6 × Int × List Int)} (h:FirstL p chs c l o):∀ s i r,o=some (s,i,r)->(s.goals.length:Int)=Io p i+c.rest.length:=by
 induction h with
 | nil=>intro s i r h; cases h
 | miss _ _ ih=>exact ih
 | hit ht=>
  intro s i r h
  simp only [Option.some.injEq,Prod.mk.injEq] at h
  obtain ⟨rfl,rfl,rfl⟩:=h
  exact ht.goals
theorem TakeR.okP {p:List C} {s s':Se} {c:Ch} (h:TakeR p s c (some s')) (hn:s.saved.length=s.st.chs.length) (hr:(c.rest.length:Int)+1=j9 s.steps) (ho:openP s.steps)
  (hs:∀ i (h:i<s.st.chs.length) (h':i<s.saved.length),(s.st.chs[i].rest.length:Int)+1=j9 s.saved[i]/\Go.Proofs.YtfcbhfjomgopbaaGreat.openP s.saved[i]):okP s':=by
 cases h with
 | @yes u i l hF=>
  have hg:=hF.goals u i l rfl
  refine ⟨?_,?_,?_⟩
  ·simp only [gA,tI]
   rw [hg,Io]
   omega
  ·exact ho.snoc (by omega) _
  ·intro k h1 h2
   simp only [gA] at h1 h2 ⊢
   by_cases hl:l=[]
   ·subst hl
    simp only [if_pos,List.append_nil] at h1 h2 ⊢
    exact hs k h1 h2
   ·simp only [if_neg hl,List.length_append,List.length_singleton] at h1 h2 ⊢
    by_cases hk:k<s.st.chs.length
    ·rw [List.getElem_append_left hk,List.getElem_append_left (by omega)]
     exact hs k hk (by omega)
    ·have hk1:k=s.st.chs.length:=by omega
     subst hk1
     rw [List.getElem_append_right (Nat.le_refl _),List.getElem_append_right (by omega)]
     simp only [hn,Nat.sub_self,List.getElem_cons_zero]
     exact ⟨hr,ho⟩
end Go.Proofs.YtfcbhfjomgopbaaGreat

/- the search keeps its steps in preorder. -/
namespace Go.Proofs.YtfcbhfjomgopbaaGreat
open Go Go.RowKit
def okB (cs:List Ch) (ss:List (List Sp)):Prop:=∀ i (h:i<cs.length) (h':i<ss.length),(cs[i].rest.length:Int)+1=j9 ss[i]/\openP ss[i]
theorem okB.last {cs:List Ch} {ss:List (List Sp)} {c:Ch} {t:List Sp} (h:okB (cs++[c]) (ss++[t])) (hl:cs.length=ss.length):okB cs ss/\(c.rest.length:Int)+1=j9 t/\openP t:=by
 constructor
 ·intro i h1 h2
  have:=h i (by simp; omega) (by simp; omega)
  rw [List.getElem_append_left h1,List.getElem_append_left h2] at this
  exact this
 ·have:=h cs.length (by simp) (by simp [hl])
  rw [List.getElem_append_right (Nat.le_refl _),List.getElem_append_right (by omega)] at this
  simp only [hl,Nat.sub_self,List.getElem_cons_zero] at this
  exact this
theorem BackR.okP {p:List C} {cs:List Ch} {ss:List (List Sp)} {o:Option Se} (h:BackR p cs ss o):cs.length=ss.length->okB cs ss->∀ s,o=some s->okP s:=by
 induction h with
 | nil=>intro _ _ s h; cases h
 | hit ht=>
  intro hl hb s h
  simp only [List.length_append,List.length_singleton,Nat.add_right_cancel_iff] at hl
  obtain ⟨h1,h2,h3⟩:=hb.last hl
  rw [Option.some.injEq] at h
  subst h
  exact ht.okP hl.symm h2 h3 h1
 | miss _ _ ih=>
  intro hl hb
  simp only [List.length_append,List.length_singleton,Nat.add_right_cancel_iff] at hl
  exact ih hl (hb.last hl).1
theorem OneR.okP {p:List C} {s s':Se} {k:Int} (h:OneR p s s' k) (hn:s.saved.length=s.st.chs.length) (ho:okP s):okP s':=by
 have hgl:=ho.goals
 cases h with
 | big=>exact ho
 | stuck=>exact ho
 | fail=>exact ho
 | err=>exact ho
 | took hg _ _ _ _ ht=>
  rw [hg] at hgl
  refine ht.okP hn ?_ ho.openP ho.saved
  simp only [List.length_cons] at hgl ⊢
  omega
 | solved hg _ _ _ _ _=>
  rw [hg] at hgl
  simp only [List.length_cons] at hgl
  refine ⟨?_,ho.openP.snoc (by omega) _,ho.saved⟩
  simp only [tI]
  omega
theorem OneR.ok {p:List C} (hp:∀ cl∈p,pJ cl) {s s':Se} {k:Int} (h:OneR p s s' k) (hs:jN p.length s):jN p.length s':=by
 have hgo:=hs.st.goals
 cases h with
 | big=>exact hs
 | stuck=>exact hs
 | fail=>exact hs
 | err=>exact hs
 | took hg hu hsm _ _ ht=>
  rw [hg] at hgo
  have hou:=jt hs.st.good hu (hgo _ (List.mem_cons_self ..)).1
  have hw:=jg hsm hou
  exact ht.ok hp hs.st.chs hs.left hs.len ⟨hs.st.good,⟨hou,by simp only; omega⟩,fun x hx=>hgo x (List.mem_cons_of_mem _ hx)⟩ (Dv p _) _ rfl
 | solved hg hu hsm _ hb hB=>
  rw [hg] at hgo
  have hou:=jt hs.st.good hu (hgo _ (List.mem_cons_self ..)).1
  have hw:=jg hsm hou
  have hgd:=hB.good hs.st.good hb ⟨hou,by omega⟩
  have hl:=hgd.len
  exact ⟨⟨by simp only [hl]; exact hgd,fun x hx=>by simp only [hl]; exact hgo x (List.mem_cons_of_mem _ hx),hs.st.chs⟩,hs.left,hs.len⟩
theorem BackR.ok {p:List C} (hp:∀ cl∈p,pJ cl) {cs:List Ch} {ss:List (List Sp)} {o:Option Se} (h:BackR p cs ss o):cs.length=ss.length->(∀ c∈cs,ix c)->(∀ c∈cs,∀ i∈c.left,0<=i/\i<p.length)->∀ s,o=some s->jN p.length s:=by
 induction h with
 | nil=>intro _ _ _ s h; cases h
 | hit ht=>
  intro hl hh hf s h
  simp only [List.length_append,List.length_singleton,Nat.add_right_cancel_iff] at hl
  exact ht.ok hp (fun d hd=>hh d (List.mem_append_left _ hd)) (fun d hd=>hf d (List.mem_append_left _ hd)) hl.symm (hh _ (by simp)) (hf _ (by simp)) s h
 | miss _ _ ih=>
  intro hl hh hf
  simp only [List.length_append,List.length_singleton,Nat.add_right_cancel_iff] at hl
  exact ih hl (fun d hd=>hh d (List.mem_append_left _ hd)) (fun d hd=>hf d (List.mem_append_left _ hd))
theorem Srch.ok {p:List C} (hp:∀ cl∈p,pJ cl) {n:Nat} {s:Se} {o:Option Se} (h:Srch p n s o):jN p.length s->okP s->∀ t,o=some t->jN p.length t/\okP t/\t.st.goals=[]:=by
 induction h with
 | done hg=>intro h1 h2 t h; rw [Option.some.injEq] at h; subst h; exact ⟨h1,h2,hg⟩
 | out=>intro _ _ t h; cases h
 | halt=>intro _ _ t h; cases h
 | stop=>intro _ _ t h; cases h
 | step hg h1 _ ih=>exact fun hs ho=>ih (h1.ok hp hs) (h1.okP hs.len ho)
 | back hg h1 h2 _ ih=>
  intro hs ho
  have hs':=h1.ok hp hs
  have ho':=h1.okP hs.len ho
  exact ih (h2.ok hp hs'.len.symm hs'.st.chs hs'.left _ rfl) (h2.okP hs'.len.symm ho'.saved _ rfl)
end Go.Proofs.YtfcbhfjomgopbaaGreat

/- Proofs as data: how they read out of published memory, how they are made, their sizes, copies, equality, and the row's reading of them. -/
namespace Go.Proofs.YtfcbhfjomgopbaaGreat
open Go Go.ChangeShapes Go.WideShapes Go.ChangeAt Go.RowKit

inductive PF where
 | mk (goal:T) (clause:Int) (kids:List PF)
def PF.goal:PF->T
 | .mk g _ _=>g
def PF.clause:PF->Int
 | .mk _ c _=>c
def PF.kids:PF->List PF
 | .mk _ _ ks=>ks
theorem PF.ind {p:PF->Prop} (h:∀ g c ks,(∀ t∈ks,p t)->p (.mk g c ks)) (t:PF):p t:=
 PF.rec (motive_1:=p) (motive_2:=fun l=>∀ t∈l,p t) (fun g c ks ih=>h g c ks ih) (by simp) (fun a l h1 h2 t ht=>by
  rcases List.mem_cons.1 ht with rfl|ht
  ·exact h1
  ·exact h2 t ht) t
inductive RdF (S:al):List Value->PF->Prop
 | nil {a0 a1 a2 a3:Value} {g:T} {c:Int} {a:Option Addr} {cap:Nat} (hg:RdT S [a0,a1,a2,a3] g) (hn:inI c) (hc:cap<=maxLen) :
   RdF S [a0,a1,a2,a3,.int .i64 c,.slice a 0 cap] (.mk g c [])
 | cons {a0 a1 a2 a3:Value} {g:T} {n:Int} {kids:List PF} {b o cap:Nat} {c:Array Value} {E:TypeId} {fz:Nat × Nat} (hg:RdT S [a0,a1,a2,a3] g) (hn:inI n) (hl:kids.length<=cap) (hc:cap<=maxLen)
   (hS:S b=some (.cells c E fz)) (h:∀ i (h:i<kids.length),RdF S (bm c (o+i * 6) 6) kids[i]) :
   RdF S [a0,a1,a2,a3,.int .i64 n,.slice (some ⟨b,o,none⟩) kids.length cap] (.mk g n kids)
theorem RdF.iff {S:al} {cs:List Value} {x:PF}:RdF S cs x ↔
  ∃ kv ks,cs=[.int .i64 x.goal.kind,.int .i64 x.goal.n,.string x.goal.name,kv,.int .i64 x.clause,ks]/\RdT S [.int .i64 x.goal.kind,.int .i64 x.goal.n,.string x.goal.name,kv] x.goal/\inI x.clause/\RdSl S 6 (RdF S) ks x.kids:=by
 constructor
 ·intro h
  cases h with
  | nil hg hn hc=>
   obtain ⟨kv,e,_⟩:=RdT.iff.1 hg
   simp only [List.cons.injEq,and_true] at e
   obtain ⟨rfl,rfl,rfl,rfl⟩:=e
   exact ⟨_,_,rfl,hg,hn,_,_,rfl,Nat.zero_le _,hc,.inl rfl⟩
  | cons hg hn hl hc hS h=>
   obtain ⟨kv,e,_⟩:=RdT.iff.1 hg
   simp only [List.cons.injEq,and_true] at e
   obtain ⟨rfl,rfl,rfl,rfl⟩:=e
   exact ⟨_,_,rfl,hg,hn,_,_,rfl,hl,hc,.inr ⟨_,_,_,_,_,rfl,hS,h⟩⟩
 ·obtain ⟨g,n,kids⟩:=x
  rintro ⟨kv,ks,rfl,hg,hn,a,cap,rfl,hl,hc,h⟩
  rcases h with h|⟨b,o,c,E,fz,rfl,hS,h⟩
  ·simp only [PF.kids] at h
   subst h
   exact RdF.nil hg hn hc
  ·exact RdF.cons hg hn hl hc hS h
theorem RdF.length {S:al} {cs:List Value} {x:PF} (h:RdF S cs x):cs.length=6:=by
 obtain ⟨_,_,rfl,_⟩:=RdF.iff.1 h; rfl
theorem RdF.one {S:al} {cs:List Value} {x:PF} (h:RdF S cs x):∀ u∈cs,u.oneCell'=true:=by
 obtain ⟨kv,ks,rfl,hg,_,a,cap,rfl,_⟩:=RdF.iff.1 h
 have:=hg.one kv (by simp)
 intro u hu
 simp at hu
 rcases hu with rfl|rfl|rfl|rfl|rfl|rfl <;> first|rfl|exact this
theorem RdF.mono {S S':al} (hs:Sle S S') {cs:List Value} {x:PF} (h:RdF S cs x):RdF S' cs x:=by
 induction h with
 | nil hg hn hc=>exact RdF.nil (hg.mono hs) hn hc
 | cons hg hn hl hc hS _ ih=>exact RdF.cons (hg.mono hs) hn hl hc (hs _ _ hS) ih
/- in memory of one's own -/
inductive TrF:bG->List Value->PF->Prop
 | nil {L:bG} {a0 a1 a2 a3:Value} {g:T} {n:Int} {a:Option Addr} {cap:Nat} (hg:TrT L [a0,a1,a2,a3] g) (hn:inI n) (hc:cap<=maxLen) :
   TrF L [a0,a1,a2,a3,.int .i64 n,.slice a 0 cap] (.mk g n [])
 | cons {L:bG} {a0 a1 a2 a3:Value} {g:T} {n:Int} {kids:List PF} {b cap:Nat} {c:Array Value} {E:TypeId} {Ls:List bG} (hg:TrT L [a0,a1,a2,a3] g) (hn:inI n) (hl:kids.length<=cap) (hc:cap<=maxLen)
   (hLs:Ls.length=kids.length) (hsz:cap * 6<=c.size) (h:∀ i (h:i<kids.length) (h':i<Ls.length),TrF Ls[i] (bm c (i * 6) 6) kids[i]) :
   TrF (L++(b,.cells c E)::Ls.flatten) [a0,a1,a2,a3,.int .i64 n,.slice (some ⟨b,0,none⟩) kids.length cap] (.mk g n kids)
theorem TrF.iff {L:bG} {cs:List Value} {x:PF}:TrF L cs x ↔
  ∃ L1 L2 kv ks,L=L1++L2/\cs=[.int .i64 x.goal.kind,.int .i64 x.goal.n,.string x.goal.name,kv,.int .i64 x.clause,ks]/\TrT L1 [.int .i64 x.goal.kind,.int .i64 x.goal.n,.string x.goal.name,kv] x.goal/\inI x.clause/\TrSl 6 TrF L2 ks x.kids:=by
 constructor
 ·intro h
  cases h with
  | nil hg hn hc=>
   obtain ⟨kv,e,_⟩:=TrT.iff.1 hg
   simp only [List.cons.injEq,and_true] at e
   obtain ⟨rfl,rfl,rfl,rfl⟩:=e
   exact ⟨_,[],_,_,(List.append_nil _).symm,rfl,hg,hn,_,_,rfl,Nat.zero_le _,hc,.inl ⟨rfl,rfl⟩⟩
  | cons hg hn hl hc hLs hsz h=>
   obtain ⟨kv,e,_⟩:=TrT.iff.1 hg
   simp only [List.cons.injEq,and_true] at e
   obtain ⟨rfl,rfl,rfl,rfl⟩:=e
   exact ⟨_,_,_,_,rfl,rfl,hg,hn,_,_,rfl,hl,hc,.inr ⟨_,_,_,_,rfl,rfl,hLs,hsz,h⟩⟩
 ·obtain ⟨g,n,kids⟩:=x
  rintro ⟨L1,L2,kv,ks,rfl,rfl,hg,hn,a,cap,rfl,hl,hc,h⟩
  rcases h with ⟨h,rfl⟩|⟨b,c,E,Ls,rfl,rfl,hLs,hsz,h⟩
  ·simp only [PF.kids] at h
   subst h
   rw [List.append_nil]
   exact TrF.nil hg hn hc
  ·exact TrF.cons hg hn hl hc hLs hsz h
theorem TrF.length {L:bG} {cs:List Value} {x:PF} (h:TrF L cs x):cs.length=6:=by
 obtain ⟨_,_,_,_,_,rfl,_⟩:=TrF.iff.1 h; rfl
theorem TrF.one {L:bG} {cs:List Value} {x:PF} (h:TrF L cs x):∀ u∈cs,u.oneCell'=true:=by
 obtain ⟨_,_,kv,ks,_,rfl,hg,_,a,cap,rfl,_⟩:=TrF.iff.1 h
 have:=hg.one kv (by simp)
 intro u hu
 simp at hu
 rcases hu with rfl|rfl|rfl|rfl|rfl|rfl <;> first|rfl|exact this
theorem TrF.rd {S:al} {L:bG} {cs:List Value} {x:PF} (h:TrF L cs x) (hi:Ins S L):RdF S cs x:=by
 induction h with
 | nil hg hn hc=>exact RdF.nil (hg.rd hi) hn hc
 | cons hg hn hl hc hLs hsz h ih=>
  refine RdF.cons (hg.rd hi.left) hn hl hc (hi.right _ (List.mem_cons_self ..)) (o:=0) fun i h1=>?_
  rw [Nat.zero_add]
  exact ih i h1 (by omega) (wO (fun p hp=>hi.right p (List.mem_cons_of_mem _ hp)) (by omega))
/- sizes -/
mutual
def wF:PF->Nat
 | .mk g _ ks=>wT g+ks.length+wFL ks
def wFL:List PF->Nat
 | []=>0
 | t::ts=>wF t+wFL ts
end
theorem wR:∀ {ts:List PF} {t:PF},t∈ts->wF t<=wFL ts
 | x::xs,t,h=>by
  simp only [wFL]
  rcases List.mem_cons.1 h with rfl|h
  ·omega
  ·have:=wR h; omega
theorem E9 {a b c d e f:Value}:∀ (j:Nat) (v:Value),([a,b,c,d]:List Value)[j]?=some v->(#[a,b,c,d,e,f]:Array Value)[0+j]?=some v
 | 0,_,h|1,_,h|2,_,h|3,_,h=>h
 | j+4,_,h=>by simp at h
section
attribute [local irreducible] Run CondV ag aO
end
section
variable {H:Type} {enc:TypeId × Value->H} {W:World} {sp:Nat->Bool} {held:Bool}
end
end Go.Proofs.YtfcbhfjomgopbaaGreat

/- Proofs that are valid, on both sides. -/
namespace Go.Proofs.YtfcbhfjomgopbaaGreat
open Go Go.RowKit
section
attribute [local irreducible] Run CondV ag aO
theorem pp {σ:Type} {f:FuncId} {fn:Func} {cap:List Value} {S:al} {It:σ->List Item} {ok:σ->Prop} {step:σ->PF->Bool × σ} {xs:List PF} {v:Value}
  (hcb:Cb Tryz.prog f fn cap S It ok step (fun v x=>∃ cs,v=.agg cs.toArray/\RdF S cs x) xs) (h:RdSl S 6 (RdF S) v xs) {st:σ} (hok:ok st) :
  Tri Tryz.prog nX [v,fv f cap] (It st) S fun r I' S'=>r=.int .i64 (dj step st xs 0).1/\I'=It (dj step st xs 0).2/\S'=S:=by
 intro w hI
 have hlen:=h.le
 simp only [maxLen] at hlen
 refine j4 ?_
 unfold g0
 refine bp h cA ?_
 refine ⟨fun i w'=>∃ (k:Nat) (st':σ),k<=xs.length/\i=.int .i64 k/\ok st'/\dj step st' (xs.drop k) k=dj step st xs 0/\Inv w (bW (It st)) (It st') S w',fun i _=>xs.length - (intOf i).toNat,
  ⟨0,st,Nat.zero_le _,rfl,hok,rfl,hI⟩,?_⟩
 intro t8 _ _ _ _ _ _ _ _ _ _ _ _ w'
 rintro ⟨k,st',hk,rfl,hok',hrel,hI⟩
 refine cg ?_
 refine bz (fun hki=>?_) (fun hki=>?_)
 ·have hk':k<xs.length:=by omega
  have hm:=List.getElem_mem hk'
  have hstep:dj step st' (xs.drop k) k=if (step st' xs[k]).1 then ((k:Int),(step st' xs[k]).2) else dj step (step st' xs[k]).2 (xs.drop (k+1)) (k+1):=by
   rw [List.drop_eq_getElem_cons hk',dj]
  refine cJ hI h cA bA hk' (fun _ _=>RdF.length) fun cs hcs=>?_
  refine Run.callV (A:=[]) (args:=[.agg cs.toArray]) hcb.hf hcb.hn (by simpa using hI) (hcb.call st' _ _ hm hok' ⟨cs,rfl,hcs⟩) fun v' I' S' w'=>?_
  rintro ⟨rfl,rfl,rfl⟩ _ hI
  refine aS (fun hb=>?_) (fun hb=>?_)
  ·rw [if_pos hb] at hstep
   refine ⟨_,_,_,rfl,by simpa using hI,Ext.refl _ _ _,?_,?_,rfl⟩
   ·rw [<- hrel,hstep]
   ·rw [<- hrel,hstep]
  ·refine bT (by omega) ?_
   rw [hb] at hstep
   refine ⟨⟨k+1,_,hk',rfl,hcb.keep st' _ hm hok' hb,?_,by simpa using hI⟩,by simp [intOf]; omega⟩
   rw [<- hrel,hstep]
   rfl
 ·have:k=xs.length:=by omega
  subst this
  rw [List.drop_length,dj] at hrel
  exact ⟨_,_,_,rfl,hI,Ext.refl _ _ _,by rw [<- hrel],by rw [<- hrel],rfl⟩
theorem lF {σ:Type} {f:FuncId} {fn:Func} {cap:List Value} {S:al} {It:σ->List Item} {ok:σ->Prop} {step:σ->PF->Bool × σ} {xs:List PF} {v:Value}
  (hcb:Cb Tryz.prog f fn cap S It ok step (fun v x=>∃ cs,v=.agg cs.toArray/\RdF S cs x) xs) (h:RdSl S 6 (RdF S) v xs) {st:σ} (hok:ok st) :
  Tri Tryz.prog kz [v,fv f cap] (It st) S fun r I' S'=>r=.bool (jV step st xs).1/\I'=It (jV step st xs).2/\S'=S:=by
 intro w hI
 refine i8 ?_
 unfold gd
 refine Run.call (A:=[]) l7 mY (by simpa using hI) (pp hcb h hok) fun v' I' S' w'=>?_
 rintro ⟨rfl,rfl,rfl⟩ _ hI
 refine ja ?_
 have he:=kH step xs st 0
 exact ⟨_,_,_,rfl,by simpa using hI,Ext.refl _ _ _,by rw [he.1],by rw [he.2],rfl⟩
end
def r6 (g:T) (c:Int) (l:Nat):Bool:=fh g && ((decide (-1<=c) && decide (c<=19)) && decide (l<=6))
mutual
def ff:PF->Int->Int->Bool × Int
 | .mk g c ks,deep,n=>if 60<n+1 ∨ 20<deep then (false,n+1) else if r6 g c ks.length=true then fV ks (deep+1) (n+1) else (false,n+1)
def fV:List PF->Int->Int->Bool × Int
 | [],_,n=>(true,n)
 | t::ts,deep,n=>if (ff t deep n).1 then fV ts deep (ff t deep n).2 else (false,(ff t deep n).2)
end
mutual
def lN:PF->Int->Bool
 | .mk g c ks,d=>decide (1<=d) && (r6 g c ks.length && jR ks (d - 1))
def jR:List PF->Int->Bool
 | [],_=>true
 | t::ts,d=>lN t d && jR ts d
end
mutual
def ig:PF->Int
 | .mk _ _ ks=>1+eX ks
def eX:List PF->Int
 | []=>0
 | t::ts=>ig t+eX ts
end
def dl (x:PF):Bool:=lN x 20 && decide (ig x<=60)
mutual
theorem mG:∀ t:PF,1<=ig t
 | .mk _ _ ks=>by
  have:=iE ks
  rw [ig]; omega
theorem iE:∀ ts:List PF,0<=eX ts
 | []=>Int.le_refl _
 | t::ts=>by
  have h1:=mG t
  have h2:=iE ts
  rw [eX]; omega
end
mutual
theorem qi:∀ (t:PF) (deep n:Int),(ff t deep n).1=(lN t (21 - deep) && decide (n+ig t<=60))/\((ff t deep n).1=true->(ff t deep n).2=n+ig t)
 | .mk g c ks,deep,n=>by
  have hl:=iE ks
  rw [ff,lN,ig]
  by_cases h1:60<n+1 ∨ 20<deep
  ·rw [if_pos h1]
   refine ⟨?_,fun h=>by cases h⟩
   rcases h1 with h1|h1
   ·rw [decide_eq_false (show ¬ (n+(1+eX ks)<=60) by omega),Bool.and_false]
   ·rw [decide_eq_false (show ¬ (1<=21 - deep) by omega)]; rfl
  ·rw [if_neg h1,decide_eq_true (show 1<=21 - deep by omega),Bool.true_and]
   cases hn:r6 g c ks.length with
   | false=>exact ⟨rfl,fun h=>by cases h⟩
   | true=>
    rw [if_pos rfl,Bool.true_and]
    have:=AX ks (deep+1) (n+1)
    rw [show 21 - (deep+1)=21 - deep - 1 by omega] at this
    rw [show n+(1+eX ks)=n+1+eX ks by omega]
    refine ⟨?_,this.2⟩
    rw [this.1]
    cases ks with
    | nil=>rw [show eX []=0 from rfl,decide_eq_true (show n+1+0<=60 by omega)]; rfl
    | cons t ts=>simp
theorem AX:∀ (ts:List PF) (deep n:Int),(fV ts deep n).1=(jR ts (21 - deep) && (ts.isEmpty || decide (n+eX ts<=60)))/\((fV ts deep n).1=true->(fV ts deep n).2=n+eX ts)
 | [],deep,n=>by simp [fV,jR,eX]
 | t::ts,deep,n=>by
  have ht:=qi t deep n
  have hp:=iE ts
  rw [fV,jR,eX,List.isEmpty_cons,Bool.false_or]
  cases h1:(ff t deep n).1 with
  | false=>
   rw [h1] at ht
   have h2:=ht.1
   refine ⟨?_,fun h=>by cases h⟩
   simp only [Bool.false_eq_true,if_false]
   cases hs:lN t (21 - deep) with
   | false=>rfl
   | true=>
    rw [hs,Bool.true_and] at h2
    have:¬ (n+ig t<=60):=of_decide_eq_false h2.symm
    rw [decide_eq_false (show ¬ (n+(ig t+eX ts)<=60) by omega),Bool.and_false]
  | true=>
   rw [h1] at ht
   have h2:=ht.1
   have h3:=ht.2 rfl
   simp only [if_true]
   rw [h3]
   have hs:lN t (21 - deep)=true/\n+ig t<=60:=by
    have:=h2.symm
    simpa using this
   have hl:=AX ts deep (n+ig t)
   rw [show n+(ig t+eX ts)=n+ig t+eX ts by omega]
   refine ⟨?_,hl.2⟩
   rw [hl.1,hs.1,Bool.true_and]
   cases ts with
   | nil=>rw [show eX []=0 from rfl,decide_eq_true (show n+ig t+0<=60 by omega)]; rfl
   | cons u us=>simp
end
theorem nj (t:PF):(ff t 1 0).1=dl t:=by
 rw [(qi t 1 0).1,dl]
 simp
theorem DM:∀ (t:PF) (deep n:Int),n<=60->(ff t deep n).1=true->n<(ff t deep n).2/\(ff t deep n).2<=60:=by
 intro t deep n hn h
 have:=qi t deep n
 rw [this.2 h]
 have h1:=this.1
 rw [h] at h1
 have h2:=h1.symm
 simp at h2
 have:=mG t
 omega
theorem yk (deep:Int):∀ (ks:List PF) (n:Int),jV (fun n t=>(!(ff t deep n).1,(ff t deep n).2)) n ks=(!(fV ks deep n).1,(fV ks deep n).2)
 | [],n=>by simp [jV,fV]
 | t::ts,n=>by
  by_cases h:(ff t deep n).1=true
  ·simp [jV,fV,h,yk deep ts]
  ·simp [jV,fV,h]
/- the reference's count, up to a number -/
mutual
def oJ:PF->Int->Int
 | .mk _ _ ks,m=>gM ks 1 m
def gM:List PF->Int->Int->Int
 | [],n,_=>n
 | t::ts,n,m=>if n<=m then gM ts (n+oJ t (m - n)) m else n
end
mutual
theorem qM:∀ (t:PF) (m:Int),0<=m->1<=oJ t m/\oJ t m<=m+1/\(ig t<=m->oJ t m=ig t)/\(m<ig t->m<oJ t m)
 | .mk g c ks,m,hm=>by
  have h:=AR ks 1 m hm (by omega) (by omega)
  rw [oJ,ig]
  exact h
theorem AR:∀ (ts:List PF) (n m:Int),0<=m->1<=n->n<=m+1->1<=gM ts n m/\gM ts n m<=m+1/\(n+eX ts<=m->gM ts n m=n+eX ts)/\(m<n+eX ts->m<gM ts n m)
 | [],n,m,hm,hn,hn2=>by rw [gM,eX]; omega
 | t::ts,n,m,hm,hn,hn2=>by
  have hp:=iE ts
  have hp1:=mG t
  rw [gM,eX]
  split
  ·rename_i hle
   obtain ⟨h1,h2,h3,h4⟩:=qM t (m - n) (by omega)
   obtain ⟨g1,g2,g3,g4⟩:=AR ts (n+oJ t (m - n)) m hm (by omega) (by omega)
   refine ⟨g1,g2,fun h=>?_,fun h=>?_⟩
   ·have:=h3 (by omega)
    rw [g3 (by omega)]
    omega
   ·by_cases hc:ig t<=m - n
    ·have:=h3 hc
     exact g4 (by omega)
    ·have:=h4 (by omega)
     exact g4 (by omega)
  ·omega
end
theorem KX (t:PF):decide (oJ t 60<=60)=decide (ig t<=60):=by
 obtain ⟨_,_,h3,h4⟩:=qM t 60 (by omega)
 rw [decide_eq_decide]
 constructor
 ·intro h
  rcases Int.lt_or_le 60 (ig t) with h5|h5
  ·have:=h4 h5; omega
  ·exact h5
 ·intro h
  rw [h3 h]; exact h
section
attribute [local irreducible] Run CondV ag aO
theorem lp:∀ (t:PF) (S:al) (cs:List Value) (deep n:Int) (bc:Nat),RdF S cs t->0<=deep->deep<=21->0<=n->n<=60->
  Tri Tryz.prog zV [.agg cs.toArray,.int .i64 deep,.pointer (some ⟨bc,0,none⟩)] [ez bc n] S (j2 bc S (ff t deep n)):=by
 refine PF.ind fun g c ks ih S cs deep n bc h hd0 hd1 hc0 hc1=>?_
 intro w hI
 obtain ⟨kv,kf,rfl,hg,hc,hks⟩:=RdF.iff.1 h
 simp only [PF.goal,PF.kids,PF.clause] at hg hc hks ⊢
 have hend:∀ {L:List Item} {w':World} {v:Value} (r:Bool × Int),Inv w (bW [ez bc n]) (ez bc r.2::L) S w'->v=.bool r.1->r=ff (.mk g c ks) deep n->
   ∃ v' I' S',Ending.returned v=.returned v'/\Inv w (bW [ez bc n]) I' S' w'/\Ext w.heap.size (bW [ez bc n]) S S'/\j2 bc S (ff (.mk g c ks) deep n) v' I' S':=by
  intro L w' v r h1 h2 h3
  subst h3
  exact ⟨_,_,_,rfl,h1.pick [true],Ext.refl _ _ _,h2,rfl,rfl⟩
 refine qZ ?_
 unfold nu;dsimp only
 refine bS hI fun b3 w' hI=>?_
 refine bS hI fun b4 w' hI=>?_
 refine bS hI fun b5 w' hI=>?_
 refine aX hI 3 nM rfl rfl ?_
 refine cE ?_
 refine aX hI 0 aY rfl rfl ?_
 refine bT (by omega) ?_
 refine cE ?_
 refine dy hI 0 (n:=1) rfl (by rw [aY]; rfl) rfl (Nat.le_of_ble_eq_true rfl) (by simp [Value.cells]; rfl) fun w' hI=>?_
 have hI:Inv w (bW [ez bc n]) [ez bc (n+1),.blk b3 (.cells #[.int .i64 g.kind,.int .i64 g.n,.string g.name,kv,.int .i64 c,kf] au),.blk b4 (.cells #[.int .i64 deep] eW),.blk b5 (.cells #[.pointer (some ⟨bc,0,none⟩)] fK)] S w':=hI
 have hkl:decide ((6:Int)<(ks.length:Int))=!decide (ks.length<=6):=by
  rw [<- decide_not,decide_eq_decide]; omega
 refine ⟨fun t w'=>t=.bool (decide (60<n+1 ∨ 20<deep) || !r6 g c ks.length)/\Inv w (bW [ez bc n]) [ez bc (n+1),.blk b3 (.cells #[.int .i64 g.kind,.int .i64 g.n,.string g.name,kv,.int .i64 c,kf] au),.blk b4 (.cells #[.int .i64 deep] eW),.blk b5 (.cells #[.pointer (some ⟨bc,0,none⟩)] fK)] S w',?_,?_⟩
 ·refine aX hI 3 nM rfl rfl ?_
  refine cE ?_
  refine aX hI 0 aY rfl rfl ?_
  refine di ?_
  cases h1:decide ((60:Int)<n+1)
  ·have h1:=of_decide_eq_false h1
   repeat (first|refine ad ?_|refine af (by decide) ?_|refine ae ?_|refine ak ?_|refine aj ?_)
   refine aX hI 2 aY rfl rfl ?_
   refine di ?_
   cases h2:decide ((20:Int)<deep)
   ·have h2:=of_decide_eq_false h2
    rw [decide_eq_false (fun h=>h.elim h1 h2),Bool.false_or,r6]
    repeat (first|refine ad ?_|refine af (by decide) ?_|refine ae ?_|refine ak ?_|refine aj ?_)
    refine aI fZ ?_
    refine cN hI 1 [_,_,_,_] ai rfl rfl E9 ?_
    refine Run.callPure xz y7 hI (tj hg) fun w' hI=>?_
    refine cK ?_
    cases h3:fh g
    ·repeat (first|refine ad ?_|refine af (by decide) ?_|refine ae ?_|refine ak ?_|refine aj ?_)
     exact ⟨rfl,hI⟩
    repeat (first|refine ad ?_|refine af (by decide) ?_|refine ae ?_|refine ak ?_|refine aj ?_)
    refine ao hI 1 rfl fX aY rfl ?_
    refine Run.callPure jj jm hI (io _ _ _ S) fun w' hI=>?_
    refine cK ?_
    cases h4:(decide (-1<=c) && decide (c<=19))
    ·repeat (first|refine ad ?_|refine af (by decide) ?_|refine ae ?_|refine ak ?_|refine aj ?_)
     exact ⟨rfl,hI⟩
    repeat (first|refine ad ?_|refine af (by decide) ?_|refine ae ?_|refine ak ?_|refine aj ?_)
    refine ao hI 1 rfl bQ bY rfl ?_
    refine bp hks cA ?_
    refine di ?_
    rw [hkl]
    repeat (first|refine ad ?_|refine af (by decide) ?_|refine ae ?_|refine ak ?_|refine aj ?_)
    exact ⟨rfl,hI⟩
   ·repeat (first|refine ad ?_|refine af (by decide) ?_|refine ae ?_|refine ak ?_|refine aj ?_)
    rw [decide_eq_true (.inr (of_decide_eq_true h2)),Bool.true_or]
    exact ⟨rfl,hI⟩
  ·repeat (first|refine ad ?_|refine af (by decide) ?_|refine ae ?_|refine ak ?_|refine aj ?_)
   rw [decide_eq_true (.inl (of_decide_eq_true h1)),Bool.true_or]
   exact ⟨rfl,hI⟩
 intro q _ _ _ _ _ _ _ _ _ _ _ _ _ _ _ _ _ _ _ _ _ _ _ _ _ w'
 rintro ⟨rfl,hI⟩
 refine aS (fun hb=>?_) (fun hb=>?_)
 ·refine hend (false,n+1) hI rfl ?_
  rw [ff]
  by_cases h1:60<n+1 ∨ 20<deep
  ·rw [if_pos h1]
  ·rw [decide_eq_false h1,Bool.false_or,Bool.not_eq_true'] at hb
   rw [if_neg h1,hb]
   rfl
 ·rw [Bool.or_eq_false_iff,Bool.not_eq_false'] at hb
  have hsc:ff (.mk g c ks) deep n=fV ks (deep+1) (n+1):=by
   rw [ff,if_neg (of_decide_eq_false hb.1),if_pos hb.2]
  have hn60:=of_decide_eq_false hb.1
  refine ao hI 1 rfl bQ bY rfl ?_
  refine xL ?_
  have hcb:Cb Tryz.prog wE Tryz.f66 [.pointer (some ⟨b4,0,none⟩),.pointer (some ⟨b5,0,none⟩)] S
    (fun c:Int=>[ez bc c,.blk b4 (.cells #[.int .i64 deep] eW),.blk b5 (.cells #[.pointer (some ⟨bc,0,none⟩)] fK)]) (fun c=>0<=c/\c<=60)
    (fun c t=>(!(ff t (deep+1) c).1,(ff t (deep+1) c).2)) (fun v x=>∃ cs,v=.agg cs.toArray/\RdF S cs x) ks:=by
   refine ⟨tf,sP,fun st x _ hst hf=>?_,fun st x v hx hst=>?_⟩
   ·have:=DM x (deep+1) st hst.2 (by simpa using hf)
    omega
   ·rintro ⟨cs,rfl,hcs⟩ w1 hI
    have hl:=hcs.length
    refine nW ?_
    unfold j3
    refine bS hI fun b w' hI=>?_
    refine aL hI 3 bA rfl (by simpa [Value.cells] using hl) ?_
    refine aX hI 1 aY rfl rfl ?_
    refine bT (by omega) ?_
    refine aX hI 2 nM rfl rfl ?_
    have hI:=hI.perm (M:=[.blk b4 (.cells #[.int .i64 deep] eW),.blk b5 (.cells #[.pointer (some ⟨bc,0,none⟩)] fK),.blk b (.cells (Value.agg cs.toArray).cells au)]++[ez bc st])
     (List.perm_append_comm (l₁:=[_,_,_]) (l₂:=[ez bc st]))
    refine Run.call iI iS hI (ih x hx S cs (deep+1) st bc hcs (by omega) (by omega) hst.1 hst.2) fun v' I' S' w'=>?_
    rintro ⟨rfl,rfl,rfl⟩ _ hI
    refine cK ?_
    have hI:=(hI.perm (M:=[ez bc (ff x (deep+1) st).2]++[.blk b4 (.cells #[.int .i64 deep] eW),.blk b5 (.cells #[.pointer (some ⟨bc,0,none⟩)] fK),.blk b (.cells (Value.agg cs.toArray).cells au)])
     List.perm_append_comm).pick [true,true,true,false]
    exact ⟨_,_,_,rfl,hI,Ext.refl _ _ _,rfl,rfl,rfl⟩
  have hI:=hI.perm (M:=[.blk b3 (.cells #[.int .i64 g.kind,.int .i64 g.n,.string g.name,kv,.int .i64 c,kf] au)]++[ez bc (n+1),.blk b4 (.cells #[.int .i64 deep] eW),.blk b5 (.cells #[.pointer (some ⟨bc,0,none⟩)] fK)]) (List.Perm.swap _ _ _)
  refine Run.call jT km hI (lF hcb hks ⟨by omega,by omega⟩) fun v' I' S' w'=>?_
  rintro ⟨rfl,rfl,rfl⟩ _ hI
  refine cK ?_
  rw [yk] at hI ⊢
  have hI:=hI.perm (M:=[ez bc (fV ks (deep+1) (n+1)).2,.blk b3 (.cells #[.int .i64 g.kind,.int .i64 g.n,.string g.name,kv,.int .i64 c,kf] au),.blk b4 (.cells #[.int .i64 deep] eW),.blk b5 (.cells #[.pointer (some ⟨bc,0,none⟩)] fK)]) (List.Perm.swap _ _ _)
  exact hend (fV ks (deep+1) (n+1)) hI (by simp) hsc.symm
theorem rO {t:PF} {S:al} {cs:List Value} (h:RdF S cs t):Pure Tryz.prog yu [.agg cs.toArray] S (.bool (dl t)):=by
 intro w hI
 have hl:=h.length
 refine pH ?_
 unfold lz
 refine bS hI fun b1 w' hI=>?_
 refine bi hI Hf fun b2 w' hI=>?_
 refine dy hI 1 (n:=1) rfl (by rw [aY]; rfl) rfl (Nat.le_of_ble_eq_true rfl) (by simp [Value.cells]; rfl) fun w' hI=>?_
 refine aL hI 0 bA rfl (by simpa [Value.cells] using hl) ?_
 refine Run.call (A:=[_]) (I:=[ez b2 0]) iI iS hI (lp t S cs 1 0 b2 h (by omega) (by omega) (by omega) (by omega)) fun v' I' S' w'=>?_
 rintro ⟨rfl,rfl,rfl⟩ _ hI
 exact done hI (by rw [nj])
theorem xM:∀ (t:PF) (S:al) (cs:List Value) (d:Int),RdF S cs t->wF t<=1048576->-100<=d->d<=100->Pure Tryz.prog Cf [.agg cs.toArray,.int .i64 d] S (.bool (lN t d)):=by
 refine PF.ind fun g c ks ih S cs d h hw hd0 hd1=>?_
 intro w hI
 obtain ⟨kv,kf,rfl,hg,hc,hks⟩:=RdF.iff.1 h
 simp only [PF.goal,PF.kids,PF.clause] at hg hc hks ⊢
 have hlen:=hks.le
 simp only [maxLen] at hlen
 rw [wF] at hw
 rw [lN]
 refine sU ?_
 unfold o5;dsimp only
 refine bS hI fun b2 w' hI=>?_
 have hI:Inv w [] [.blk b2 (.cells #[.int .i64 g.kind,.int .i64 g.n,.string g.name,kv,.int .i64 c,kf] au)] S w':=hI
 have hkl:decide ((6:Int)<(ks.length:Int))=!decide (ks.length<=6):=by
  rw [<- decide_not,decide_eq_decide]; omega
 have hcl:decide (c < -1)=!decide (-1<=c):=by rw [<- decide_not,decide_eq_decide]; omega
 have hcg:decide ((20:Int)<=c)=!decide (c<=19):=by rw [<- decide_not,decide_eq_decide]; omega
 have hdl:decide (d<1)=!decide (1<=d):=by rw [<- decide_not,decide_eq_decide]; omega
 refine ⟨fun t w'=>t=.bool (!(decide (1<=d) && r6 g c ks.length))/\Inv w [] [.blk b2 (.cells #[.int .i64 g.kind,.int .i64 g.n,.string g.name,kv,.int .i64 c,kf] au)] S w',?_,?_⟩
 ·refine cg ?_
  rw [hdl,r6]
  cases h1:decide (1<=d)
  ·repeat (first|refine ad ?_|refine af (by decide) ?_|refine ae ?_|refine ak ?_|refine aj ?_)
   exact ⟨rfl,hI⟩
  repeat (first|refine ad ?_|refine af (by decide) ?_|refine ae ?_|refine ak ?_|refine aj ?_)
  refine aI fZ ?_
  refine cN hI 0 [_,_,_,_] ai rfl rfl E9 ?_
  refine Run.callPure iJ iX hI (gQ hg (by omega)) fun w' hI=>?_
  refine cK ?_
  cases h3:fh g
  ·repeat (first|refine ad ?_|refine af (by decide) ?_|refine ae ?_|refine ak ?_|refine aj ?_)
   exact ⟨rfl,hI⟩
  repeat (first|refine ad ?_|refine af (by decide) ?_|refine ae ?_|refine ak ?_|refine aj ?_)
  refine ao hI 0 rfl fX aY rfl ?_
  refine cg ?_
  rw [hcl]
  cases h4:decide (-1<=c)
  ·repeat (first|refine ad ?_|refine af (by decide) ?_|refine ae ?_|refine ak ?_|refine aj ?_)
   exact ⟨rfl,hI⟩
  repeat (first|refine ad ?_|refine af (by decide) ?_|refine ae ?_|refine ak ?_|refine aj ?_)
  refine ao hI 0 rfl fX aY rfl ?_
  refine ja ?_
  rw [hcg]
  cases h5:decide (c<=19)
  ·repeat (first|refine ad ?_|refine af (by decide) ?_|refine ae ?_|refine ak ?_|refine aj ?_)
   exact ⟨rfl,hI⟩
  repeat (first|refine ad ?_|refine af (by decide) ?_|refine ae ?_|refine ak ?_|refine aj ?_)
  refine ao hI 0 rfl bQ bY rfl ?_
  refine bp hks cA ?_
  refine di ?_
  rw [hkl]
  repeat (first|refine ad ?_|refine af (by decide) ?_|refine ae ?_|refine ak ?_|refine aj ?_)
  exact ⟨rfl,hI⟩
 intro q _ _ _ _ _ _ _ _ _ _ _ _ _ _ _ _ _ _ _ _ _ _ _ w'
 rintro ⟨rfl,hI⟩
 refine aS (fun hb=>done hI ?_) (fun hb=>?_)
 ·rw [Bool.not_eq_true'] at hb
  rw [<- Bool.and_assoc,hb]; rfl
 rw [Bool.not_eq_false',Bool.and_eq_true] at hb
 rw [hb.1,hb.2,Bool.true_and,Bool.true_and]
 refine ⟨fun i w'=>∃ k:Nat,k<=ks.length/\i=.int .i64 k/\jR (ks.drop k) (d - 1)=jR ks (d - 1)/\Inv w [] [.blk b2 (.cells #[.int .i64 g.kind,.int .i64 g.n,.string g.name,kv,.int .i64 c,kf] au)] S w',
  fun i _=>ks.length - (intOf i).toNat,⟨0,Nat.zero_le _,rfl,rfl,hI⟩,?_⟩
 intro i _ _ _ _ _ _ _ _ _ _ _ _ _ _ _ _ _ w'
 rintro ⟨k,hk,rfl,hrel,hI⟩
 refine ao hI 0 rfl bQ bY rfl ?_
 refine bp hks cA ?_
 refine cg ?_
 refine bz (fun hki=>?_) (fun hki=>?_)
 ·have hk':k<ks.length:=by omega
  have hm:=List.getElem_mem hk'
  have hwm:=wR hm
  rw [List.drop_eq_getElem_cons hk',jR] at hrel
  refine ao hI 0 rfl bQ bY rfl ?_
  refine cJ hI hks cA bA hk' (fun _ _=>RdF.length) fun ds hds=>?_
  refine ic (by omega) ?_
  have hge:1<=d:=of_decide_eq_true hb.1
  refine Run.callPure o7 o6 hI (ih _ hm S ds (d - 1) hds (by omega) (by omega) (by omega)) fun w' hI=>?_
  refine cK ?_
  refine aS (fun hne=>done hI ?_) (fun he=>?_)
  ·rw [Bool.not_eq_true'] at hne
   rw [<- hrel,hne]; rfl
  ·rw [Bool.not_eq_false'] at he
   rw [he,Bool.true_and] at hrel
   refine bT (by omega) ?_
   exact ⟨⟨k+1,hk',rfl,hrel,hI⟩,by simp [intOf]; omega⟩
 ·have:k=ks.length:=by omega
  subst this
  exact done hI (by rw [<- hrel,List.drop_length]; rfl)
theorem ox:∀ (t:PF) (S:al) (cs:List Value) (m:Int),RdF S cs t->0<=m->m<=1000000->Pure Tryz.prog El [.agg cs.toArray,.int .i64 m] S (.int .i64 (oJ t m)):=by
 refine PF.ind fun g c ks ih S cs m h hm0 hm1=>?_
 intro w hI
 obtain ⟨kv,kf,rfl,hg,hc,hks⟩:=RdF.iff.1 h
 simp only [PF.goal,PF.kids,PF.clause] at hg hc hks ⊢
 have hlen:=hks.le
 simp only [maxLen] at hlen
 rw [oJ]
 refine wg ?_
 unfold pS
 refine bS hI fun b2 w' hI=>?_
 have hI:Inv w [] [.blk b2 (.cells #[.int .i64 g.kind,.int .i64 g.n,.string g.name,kv,.int .i64 c,kf] au)] S w':=hI
 refine ⟨fun i t w'=>∃ (k:Nat) (n:Int),k<=ks.length/\i=.int .i64 k/\t=.int .i64 n/\1<=n/\n<=m+1/\gM (ks.drop k) n m=gM ks 1 m/\Inv w [] [.blk b2 (.cells #[.int .i64 g.kind,.int .i64 g.n,.string g.name,kv,.int .i64 c,kf] au)] S w',
  fun i _ _=>ks.length - (intOf i).toNat,⟨0,1,Nat.zero_le _,rfl,rfl,by omega,by omega,rfl,hI⟩,?_⟩
 intro i _ _ t _ _ _ _ _ _ _ _ _ _ _ _ _ _ _ _ _ _ _ _ _ w'
 rintro ⟨k,n,hk,rfl,rfl,hn0,hn1,hrel,hI⟩
 refine ⟨fun q w'=>q=.bool (decide (k<ks.length) && decide (n<=m))/\Inv w [] [.blk b2 (.cells #[.int .i64 g.kind,.int .i64 g.n,.string g.name,kv,.int .i64 c,kf] au)] S w',?_,?_⟩
 ·refine ao hI 0 rfl bQ bY rfl ?_
  refine bp hks cA ?_
  refine cg ?_
  have el:decide ((k:Int)<(ks.length:Int))=decide (k<ks.length):=by rw [decide_eq_decide]; omega
  rw [el]
  cases h1:decide (k<ks.length)
  ·repeat (first|refine ad ?_|refine af (by decide) ?_|refine ae ?_|refine ak ?_|refine aj ?_)
   exact ⟨rfl,hI⟩
  repeat (first|refine ad ?_|refine af (by decide) ?_|refine ae ?_|refine ak ?_|refine aj ?_)
  refine fi ?_
  repeat (first|refine ad ?_|refine af (by decide) ?_|refine ae ?_|refine ak ?_|refine aj ?_)
  exact ⟨rfl,hI⟩
 intro q _ _ _ _ _ _ _ _ _ w'
 rintro ⟨rfl,hI⟩
 refine aS (fun hb=>?_) (fun hb=>?_)
 ·rw [Bool.and_eq_true,decide_eq_true_eq,decide_eq_true_eq] at hb
  obtain ⟨hk',hnm⟩:=hb
  have hm:=List.getElem_mem hk'
  rw [List.drop_eq_getElem_cons hk',gM,if_pos hnm] at hrel
  obtain ⟨s1,s2,_,_⟩:=qM ks[k] (m - n) (by omega)
  refine ao hI 0 rfl bQ bY rfl ?_
  refine cJ hI hks cA bA hk' (fun _ _=>RdF.length) fun ds hds=>?_
  refine ic (by omega) ?_
  refine Run.callPure kB kY hI (ih _ hm S ds (m - n) hds (by omega) (by omega)) fun w' hI=>?_
  refine bT (by omega) ?_
  refine bT (by omega) ?_
  exact ⟨⟨k+1,_,hk',rfl,rfl,by omega,by omega,hrel,hI⟩,by simp [intOf]; omega⟩
 ·refine done hI ?_
  rw [<- hrel]
  by_cases hk':k<ks.length
  ·rw [decide_eq_true hk',Bool.true_and] at hb
   rw [List.drop_eq_getElem_cons hk',gM,if_neg (of_decide_eq_false hb)]
  ·have:k=ks.length:=by omega
   subst this
   rw [List.drop_length,gM]
theorem jr {t:PF} {S:al} {cs:List Value} (h:RdF S cs t) (hw:wF t<=1048576):Pure Tryz.prog zk [.agg cs.toArray] S (.bool (dl t)):=by
 intro w hI
 have hl:=h.length
 refine pz ?_
 unfold lA
 refine bS hI fun b1 w' hI=>?_
 refine aL hI 0 bA rfl (by simpa [Value.cells] using hl) ?_
 refine Run.callPure o7 o6 hI (xM t S cs 20 h hw (by omega) (by omega)) fun w' hI=>?_
 rw [dl]
 cases hs:lN t 20
 ·repeat (first|refine ad ?_|refine af (by decide) ?_|refine ae ?_|refine ak ?_|refine aj ?_)
  exact done hI rfl
 repeat (first|refine ad ?_|refine af (by decide) ?_|refine ae ?_|refine ak ?_|refine aj ?_)
 refine aL hI 0 bA rfl (by simpa [Value.cells] using hl) ?_
 refine Run.callPure kB kY hI (ox t S cs 60 h (by omega) (by omega)) fun w' hI=>?_
 refine fi ?_
 rw [KX]
 repeat (first|refine ad ?_|refine af (by decide) ?_|refine ae ?_|refine ak ?_|refine aj ?_)
 exact done hI rfl
end
end Go.Proofs.YtfcbhfjomgopbaaGreat

/- spec.DrawSubsumedClause. -/
namespace Go.Proofs.YtfcbhfjomgopbaaGreat
open Go Go.RowKit
section
variable {S:al} {ys:List Nat} {v:Value}
attribute [local irreducible] Run CondV ag aO
end
end Go.Proofs.YtfcbhfjomgopbaaGreat

/- InstanceOf and FactsFor: both sides. -/
namespace Go.Proofs.YtfcbhfjomgopbaaGreat
open Go Go.RowKit

section
attribute [local irreducible] Run CondV ag aO
end

end Go.Proofs.YtfcbhfjomgopbaaGreat

/- Matching and substitution, in plain Lean: a match is found exactly if there is a substitution; subsumption is an order. -/
namespace Go.Proofs.YtfcbhfjomgopbaaGreat
open Go Go.RowKit
/- a substitution that a table knows -/
def Agk (σ:Int->T) (st:bf):Prop:=∀ (i:Nat) (t:T),st[i]?=some (some t)->σ i=t
def Gek (st st':bf):Prop:=st'.length=st.length/\∀ (i:Nat) (t:T),st[i]?=some (some t)->st'[i]?=some (some t)
theorem Gek.refl (st:bf):Gek st st:=⟨rfl,fun _ _ h=>h⟩
theorem Gek.trans {a b c:bf} (h:Gek a b) (h':Gek b c):Gek a c:=⟨h'.1.trans h.1,fun i t hi=>h'.2 i t (h.2 i t hi)⟩
theorem Agk.less {σ:Int->T} {a b:bf} (h:Agk σ b) (hg:Gek a b):Agk σ a:=fun i t hi=>h i t (hg.2 i t hi)
/- what is found is right -/
/- what is right is found -/
end Go.Proofs.YtfcbhfjomgopbaaGreat

/- FnSubsumedFact and FnSubsumedClause return true, whatever bytes come in: the walks. -/
namespace Go.Proofs.YtfcbhfjomgopbaaGreat
open Go Go.RowKit
section
variable {S:al} {ys zs:List Nat} {v u:Value}
attribute [local irreducible] Run CondV ag aO
theorem RdC.cells {S:al} {cs:List Value} {c:C} (h:RdC S cs c):∃ kv kb,cs=[.int .i64 c.head.kind,.int .i64 c.head.n,.string c.head.name,kv,kb]/\RdT S [.int .i64 c.head.kind,.int .i64 c.head.n,.string c.head.name,kv] c.head/\RdSl S 4 (RdT S) kb c.body:=by
 obtain ⟨hd,kb,rfl,h1,h2⟩:=h
 have h1':=h1
 obtain ⟨kv,rfl,_⟩:=RdT.iff.1 h1
 exact ⟨kv,kb,rfl,h1',h2⟩
end
end Go.Proofs.YtfcbhfjomgopbaaGreat

/- Proofs that are checked, on both sides. -/
namespace Go.Proofs.YtfcbhfjomgopbaaGreat
open Go Go.RowKit
theorem qw {t:T} (h:dA t=true):wT t<=840:=by
 have ho:=kt h
 have h1:=HT t ho
 rw [dA,Bool.and_eq_true] at h
 have h2:dw t<=120:=by simpa using h.2
 omega
theorem mA {g:T} (h:fh g=true):dA g=true:=by
 rw [fh,Bool.and_eq_true] at h; exact h.1
def bltF (g:T) (f:Bool):Prop:=(dx g=false/\f=false) ∨ (dx g=true/\∃ code st',Blt Om g code st'/\f=N2 code st')
theorem bltF.ex {g:T} (h:dA g=true):∃ f,bltF g f:=by
 cases hb:dx g with
 | false=>exact ⟨false,.inl ⟨hb,rfl⟩⟩
 | true=>
  have:=qw h
  obtain ⟨c,st',hB⟩:=Blt.ex (JG 26) hb ⟨kt h,by omega⟩
  exact ⟨_,.inr ⟨hb,c,st',hB,rfl⟩⟩
open Classical in
noncomputable def bltV (g:T):Bool:=if h:∃ f,bltF g f then h.choose else false
/- one node of a proof, and all of them -/
def MW:List T->List PF->bf->Bool
 | g::gs,x::xs,st=>!jL g && ((kO g x.goal st).1 && MW gs xs (kO g x.goal st).2)
 | _,_,_=>true
noncomputable def nodeC (p:List C) (g:T) (c:Int) (ks:List PF):Bool:=if c<0 then decide (ks.length=0) && bltV g else match p[c.toNat]? with
 | none=>false
 | some q=>decide (ks.length=q.body.length) && ((kO q.head g st0).1 && MW q.body ks (kO q.head g st0).2)
mutual
noncomputable def chkF (p:List C):PF->Bool
 | .mk g c ks=>nodeC p g c ks && chkFL p ks
noncomputable def chkFL (p:List C):List PF->Bool
 | []=>true
 | x::xs=>chkF p x && chkFL p xs
end
noncomputable def interL (p:List C):List T->List PF->bf->Bool
 | g::gs,x::xs,st=>!jL g && ((kO g x.goal st).1 && (chkF p x && interL p gs xs (kO g x.goal st).2))
 | _,_,_=>true
theorem Bj:∀ {ts:List PF} {d:Int},jR ts d=true->∀ x∈ts,lN x d=true
 | t::ts,d,h,x,hx=>by
  rw [jR,Bool.and_eq_true] at h
  rcases List.mem_cons.1 hx with rfl|hx
  ·exact h.1
  ·exact Bj h.2 x hx
theorem Jo {g:T} {c:Int} {ks:List PF} {d:Int} (h:lN (.mk g c ks) d=true):fh g=true/\(-1<=c/\c<=19)/\∀ x∈ks,lN x (d - 1)=true:=by
 rw [lN,Bool.and_eq_true,Bool.and_eq_true,r6,Bool.and_eq_true,Bool.and_eq_true,Bool.and_eq_true,decide_eq_true_eq,decide_eq_true_eq,decide_eq_true_eq,decide_eq_true_eq] at h
 obtain ⟨_,⟨h1,⟨h2,h3⟩,_⟩,h4⟩:=h
 exact ⟨h1,⟨h2,h3⟩,Bj h4⟩
section
attribute [local irreducible] Run CondV ag aO
end
end Go.Proofs.YtfcbhfjomgopbaaGreat

/- spec: what holds of all parts of a term (numbers are small, only structures have names), and who keeps it. -/
namespace Go.Proofs.YtfcbhfjomgopbaaGreat
open Go Go.RowKit
mutual
def okM:T->Prop
 | .mk k n s ks=>(k=2->-999<=n/\n<=999)/\(k≠3->s=emptyB)/\j0 ks
def j0:List T->Prop
 | []=>True
 | t::ts=>okM t/\j0 ts
end
theorem nC:∀ {ts:List T},j0 ts->∀ t∈ts,okM t
 | t::ts,h,x,hx=>by
  rw [j0] at h
  rcases List.mem_cons.1 hx with rfl|hx
  ·exact h.1
  ·exact nC h.2 x hx
theorem IF:∀ {ts:List T},(∀ t∈ts,okM t)->j0 ts
 | [],_=>by rw [j0]; trivial
 | t::ts,h=>by rw [j0]; exact ⟨h t (List.mem_cons_self ..),IF fun u hu=>h u (List.mem_cons_of_mem _ hu)⟩
theorem okM.kids {t:T} (h:okM t):j0 t.kids:=by cases t; rw [okM] at h; exact h.2.2
mutual
theorem okM.okN:∀ {t:T},okM t->okN t
 | .mk k n s ks,h=>by
  rw [okM] at h
  rw [Go.Proofs.YtfcbhfjomgopbaaGreat.okN]
  exact ⟨h.1,E3 h.2.2⟩
theorem E3:∀ {ts:List T},j0 ts->CM ts
 | [],_=>by rw [CM]; trivial
 | t::ts,h=>by
  rw [j0] at h
  rw [CM]
  exact ⟨okM.okN h.1,E3 h.2⟩
end
mutual
theorem BI:∀ (t:T) (d:Int),fI t d=true->okM t
 | .mk k n s ks,d,h=>by
  rw [fI] at h
  split at h
  ·cases h
  rw [Bool.and_eq_true] at h
  obtain ⟨ho,hk⟩:=h
  rw [okM]
  have h2:k=2->(-999<=n/\n<=999)/\s=emptyB:=by
   intro e
   subst e
   have ho2:eB (.mk 2 n s ks)=(decide (-999<=n) && (decide (n<=999) && (decide (s=emptyB) && decide (ks.length=0)))):=by
    rw [eB]; exact (if_neg (show ¬ (2:Int)=1 by decide)).trans (if_pos rfl)
   rw [ho2,Bool.and_eq_true,Bool.and_eq_true,Bool.and_eq_true] at ho
   exact ⟨⟨of_decide_eq_true ho.1,of_decide_eq_true ho.2.1⟩,of_decide_eq_true ho.2.2.1⟩
  refine ⟨fun e=>(h2 e).1,fun e=>?_,xD ks _ hk⟩
  by_cases e2:k=2
  ·exact (h2 e2).2
  ·have ho:(if k=1 then decide (0<=n) && (decide (n<=25) && (decide (s=emptyB) && decide (ks.length=0))) else if k=2 then decide (-999<=n) && (decide (n<=999) && (decide (s=emptyB) && decide (ks.length=0))) else if k=3 then decide (n=0) && (ji s && decide (ks.length<=4)) else false)=true:=ho
   rw [if_neg e2,if_neg e] at ho
   split at ho
   ·simp only [Bool.and_eq_true,decide_eq_true_eq] at ho
    exact ho.2.2.1
   ·cases ho
theorem xD:∀ (ts:List T) (d:Int),fJ ts d=true->j0 ts
 | [],_,_=>by rw [j0]; trivial
 | t::ts,d,h=>by
  rw [fJ,Bool.and_eq_true] at h
  rw [j0]
  exact ⟨BI t d h.1,xD ts d h.2⟩
end
theorem nJ {t:T} (h:dA t=true):okM t:=BI t 30 (uz h)
mutual
theorem nE (m:Int):∀ t:T,okM t->okM (ct m t)
 | .mk k n s ks,h=>by
  rw [okM] at h
  rw [ct,okM]
  refine ⟨fun e=>?_,h.2.1,yF m ks h.2.2⟩
  rw [if_neg (by omega)]
  exact h.1 e
theorem yF (m:Int):∀ ts:List T,j0 ts->j0 (fy m ts)
 | [],_=>by rw [fy,j0]; trivial
 | t::ts,h=>by
  rw [j0] at h
  rw [fy,j0]
  exact ⟨nE m t h.1,yF m ts h.2⟩
end
/- tables -/
def tabM (st:bf):Prop:=∀ t,some t∈st->okM t
theorem tabM.set {st:bf} (h:tabM st) {n:Nat} {t:T} (ht:okM t):tabM (st.set n (some t)):=by
 intro u hu
 rcases List.mem_or_eq_of_mem_set hu with hu|hu
 ·exact h u hu
 ·rw [Option.some.injEq] at hu
  subst hu
  exact ht
theorem tabM.look {st:bf} (h:tabM st) {t u:T} (hl:look st t=some u):okM u:=h u (List.mem_of_getElem? (eY.1 hl).2)
theorem tabM.walk {st:bf} (h:tabM st) {t v:T} (hw:dp st t v) (ht:okM t):okM v:=by
 induction hw with
 | stop=>exact ht
 | step hl _ ih=>exact ih (h.look hl)
theorem tabM.grow {st:bf} (h:tabM st) (k:Nat):tabM (st++List.replicate k none):=by
 intro t ht
 rcases List.mem_append.1 ht with ht|ht
 ·exact h t ht
 ·have:=List.eq_of_mem_replicate ht
  cases this
theorem tabM.none (k:Nat):tabM (List.replicate k none):=by
 intro t ht
 have:=List.eq_of_mem_replicate ht
 cases this
def Nn:Job->Prop
 | .one a b=>okM a/\okM b
 | .list xs ys=>(∀ a∈xs,okM a)/\∀ b∈ys,okM b
theorem Uni.okM {st st':bf} {j:Job} {r:Bool} (hu:Uni st j r st'):tabM st->Nn j->tabM st':=by
 induction hu with
 | same=>exact fun h _=>h
 | occA=>exact fun h _=>h
 | occB=>exact fun h _=>h
 | clash=>exact fun h _=>h
 | nil=>exact fun h _=>h
 | bindA ha hb _ _ _=>exact fun h hj=>h.set (h.walk hb hj.2)
 | bindB ha hb _ _ _=>exact fun h hj=>h.set (h.walk ha hj.1)
 | kids ha hb _ _ _ _ ih=>exact fun h hj=>ih h ⟨nC (h.walk ha hj.1).kids,nC (h.walk hb hj.2).kids⟩
 | stop _ ih=>exact fun h hj=>ih h ⟨hj.1 _ (List.mem_cons_self ..),hj.2 _ (List.mem_cons_self ..)⟩
 | go _ _ ih1 ih2=>
  exact fun h hj=>ih2 (ih1 h ⟨hj.1 _ (List.mem_cons_self ..),hj.2 _ (List.mem_cons_self ..)⟩) ⟨fun a ha=>hj.1 a (List.mem_cons_of_mem _ ha),fun b hb=>hj.2 b (List.mem_cons_of_mem _ hb)⟩
theorem Res.okM {st:bf} (hs:tabM st) {j:Lt} (h:Res st j):match j with
  | .one t u=>okM t->okM u
  | .list ts us=>(∀ t∈ts,okM t)->∀ u∈us,okM u:=by
 induction h with
 | @one t v us hw _ ih=>
  intro ht
  have hv:=hs.walk hw ht
  have hk:=ih (nC hv.kids)
  cases v
  rw [Go.Proofs.YtfcbhfjomgopbaaGreat.okM] at hv ⊢
  exact ⟨hv.1,hv.2.1,IF hk⟩
 | nil=>intro _ u hu; cases hu
 | cons _ _ ih1 ih2=>
  intro ht u hu
  rcases List.mem_cons.1 hu with rfl|hu
  ·exact ih1 (ht _ (List.mem_cons_self ..))
  ·exact ih2 (fun t h=>ht t (List.mem_cons_of_mem _ h)) u hu
theorem okM.kd {g:T} (h:okM g) (i:Nat):okM (kd g i):=by
 rw [Go.Proofs.YtfcbhfjomgopbaaGreat.kd,List.getD_eq_getElem?_getD]
 cases e:g.kids[i]? with
 | none=>
  simp only [Option.getD_none]
  rw [zT,Go.Proofs.YtfcbhfjomgopbaaGreat.okM,j0]
  exact ⟨fun e=>(by cases e),fun _=>rfl,trivial⟩
 | some u=>exact nC h.kids u (List.mem_of_getElem? e)
theorem MO {n:Int} (h:Sm n):okM (EL n):=by
 rw [EL,okM,j0]
 exact ⟨fun _=>h,fun _=>rfl,trivial⟩
def Of:BJ->Prop
 | .done _=>True
 | .uni a b=>Nn (.one a b)
 | .not a b=>Nn (.one a b)
theorem Nv {g:T} (h:okM g):Of (jM g):=by
 unfold jM
 split
 ·trivial
 split
 ·trivial
 split
 ·exact ⟨h.kd _,h.kd _⟩
 split
 ·exact ⟨h.kd _,h.kd _⟩
 split
 ·trivial
 split
 ·split
  ·trivial
  ·exact ⟨h.kd _,MO (rl _ (h.kd _).okN)⟩
 split
 ·unfold yi
  split
  ·trivial
  split
  ·trivial
  split
  ·trivial
  ·exact ⟨h.kd _,(h.kd _).kd _⟩
 split
 ·trivial
 ·trivial
theorem Blt.okM {st st':bf} {g:T} {c:Int} (hs:tabM st) (hg:okM g) (h:Blt st g c st'):tabM st':=by
 have hj:=Nv hg
 unfold Blt at h
 match hb:jM g,h,hj with
 | .done c,h,_=>exact h.2 ▸ hs
 | .uni a b,⟨r,hu,_⟩,hj=>exact hu.okM hs hj
 | .not a b,h,_=>exact h.1 ▸ hs
theorem Cq (n:Int):de emptyB n=false:=by
 rw [de,if_neg (by decide +kernel),if_neg (by decide +kernel),if_neg (by decide +kernel),if_neg (by decide +kernel)]
theorem LB {u:T} (h:okM u):de u.name u.kids.length=dx u:=by
 cases u with
 | mk k n s ks=>
  rw [okM] at h
  show de s ks.length=(decide (k=3) && de s ks.length)
  by_cases e:k=3
  ·subst e
   rfl
  ·rw [show (decide (k=3) && de s ks.length)=false by rw [decide_eq_false e]; rfl,h.2.1 e,Cq]
end Go.Proofs.YtfcbhfjomgopbaaGreat

/- spec: the search stays small (tables, goals, choices, steps), in plain Lean. -/
namespace Go.Proofs.YtfcbhfjomgopbaaGreat
open Go Go.RowKit
structure pU (cl:C):Prop where
 cf:pJ cl
 hd:okM cl.head
 bd:∀ t∈cl.body,okM t
 fr:gL cl<=26
 ln:cl.body.length<=6
 w:wC cl<=1048576
 vs:∀ x∈cI (cl.head::cl.body) [],0<=x/\x<1000000
mutual
theorem KE {M N:Nat}:∀ t:T,okU M t->(∀ m∈vT t,m<N)->okU N t
 | .mk k n s ks,h,hv=>by
  rw [okU] at h ⊢
  rw [vT] at hv
  refine ⟨h.1,fun e=>?_,?_,h.2.2.2⟩
  ·obtain ⟨q1,q2,q3⟩:=h.2.1 e
   have:=hv n.toNat (by rw [if_pos e]; exact List.mem_singleton.2 rfl)
   exact ⟨q1,by omega,q3⟩
  ·by_cases e:k=1
   ·rw [(h.2.1 e).2.2.2,df]; trivial
   ·rw [if_neg e] at hv
    exact th ks h.2.2.1 hv
theorem th {M N:Nat}:∀ ts:List T,df M ts->(∀ m∈vTL ts,m<N)->df N ts
 | [],_,_=>by rw [df]; trivial
 | t::ts,h,hv=>by
  rw [df] at h ⊢
  rw [vTL] at hv
  exact ⟨KE t h.1 fun m hm=>hv m (List.mem_append_left _ hm),th ts h.2 fun m hm=>hv m (List.mem_append_right _ hm)⟩
end
theorem D3 {cl:C} (h:dg cl=true):pU cl:=by
 obtain ⟨h1,h2,_⟩:=iW h
 have hU:df 26 (cl.head::cl.body):=by rw [df]; exact ⟨h1,wM h2⟩
 have hmem:=pA (cl.head::cl.body) [] hU
 have hb:=h
 rw [dg] at hb
 simp only [Bool.and_eq_true,decide_eq_true_eq,List.all_eq_true] at hb
 obtain ⟨hl,hgs,hvh,_⟩:=hb
 have hlt:∀ m∈vTL (cl.head::cl.body),m<26:=GB _ hU
 have hfr:∀ m∈vTL (cl.head::cl.body),m<(gL cl).toNat:=by
  intro m hm
  have:=(tw (cI (cl.head::cl.body) []) 0).2 m ((hmem m).2 (.inr ⟨m,hm,rfl⟩))
  rw [gL]
  omega
 have hN:=th _ hU hfr
 rw [df] at hN
 have hwh:=qw hvh
 have hwb:∀ t∈cl.body,wT t<=840:=fun t ht=>qw (mA (hgs t ht))
 have hvs:∀ x∈cI (cl.head::cl.body) [],0<=x/\x<26:=by
  intro x hx
  rcases (hmem x).1 hx with hx|⟨m,hm,rfl⟩
  ·cases hx
  ·have:=hlt m hm
   omega
 have hwl:∀ ts:List T,(∀ t∈ts,wT t<=840)->wL ts<=841 * ts.length:=by
  intro ts
  induction ts with
  | nil=>intro _; simp [wL]
  | cons t ts ih=>
   intro hh
   have a:=hh t (List.mem_cons_self ..)
   have b:=ih fun u hu=>hh u (List.mem_cons_of_mem _ hu)
   simp only [wL,List.length_cons]
   omega
 have:=hwl _ hwb
 refine ⟨⟨⟨hN.1,by omega⟩,fun t ht=>⟨nt hN.2 t ht,by have:=hwb t ht; omega⟩⟩,nJ hvh,fun t ht=>nJ (mA (hgs t ht)),?_,hl,?_,fun x hx=>⟨(hvs x hx).1,by have:=(hvs x hx).2; omega⟩⟩
 ·exact Bz 26 _ 0 (by omega) fun x hx=>(hvs x hx).2
 ·unfold wC; omega
structure okRk (k:Nat) (c:Ch):Prop where
 nb:c.binds.length<=26+26 * k
 nr:c.rest.length<=1+6 * k
 tab:tabM c.binds
 goal:okM c.goal
 rest:∀ g∈c.rest,okM g.1
 pos:0<c.binds.length
def okLp (N:Nat) (l:List Sp):Prop:=∀ x∈l,(okU N x.goal/\wT x.goal<=1048576)/\0<=x.body/\x.body<=6/\-1<=x.clause/\x.clause<=1000000
structure okXk (k:Nat) (s:Se):Prop where
 nb:s.st.binds.length<=26+26 * k
 ng:s.st.goals.length<=1+6 * k
 nc:s.st.chs.length<=k
 ns:s.steps.length<=k
 tab:tabM s.st.binds
 goals:∀ g∈s.st.goals,okM g.1
 chs:∀ c∈s.st.chs,okRk k c
 steps:okLp s.st.binds.length s.steps
 saved:∀ i (h:i<s.st.chs.length) (h':i<s.saved.length),okLp s.st.chs[i].binds.length s.saved[i]
 nv:∀ l∈s.saved,l.length<=k
 pos:0<s.st.binds.length
theorem okRk.up {k:Nat} {c:Ch} (h:okRk k c):okRk (k+1) c:=⟨by have:=h.nb; omega,by have:=h.nr; omega,h.tab,h.goal,h.rest,h.pos⟩
theorem okLp.mono {N M:Nat} {l:List Sp} (h:okLp N l) (hm:N<=M):okLp M l:=fun x hx=>⟨⟨iO hm _ (h x hx).1.1,(h x hx).1.2⟩,(h x hx).2⟩
theorem okXk.up {k:Nat} {s:Se} (h:okXk k s):okXk (k+1) s:=
 ⟨by have:=h.nb; omega,by have:=h.ng; omega,by have:=h.nc; omega,by have:=h.ns; omega,h.tab,h.goals,fun c hc=>(h.chs c hc).up,h.steps,h.saved,fun l hl=>by have:=h.nv l hl; omega,h.pos⟩
theorem FirstL.of {p:List C} {chs:List Ch} {c:Ch} {l:List Int} {o:Option (St6 × Int × List Int)} (h:FirstL p chs c l o):∀ s i r,o=some (s,i,r)->
  ∃ (n:Nat) (cl:C) (st:bf),i=n/\p[n]?=some cl/\s=jq chs c cl [] st/\Uni (wu c.binds cl) (.one c.goal (ct c.binds.length cl.head)) true st:=by
 induction h with
 | nil=>intro s i r h; cases h
 | miss _ _ ih=>exact ih
 | hit ht=>
  intro s i r h
  simp only [Option.some.injEq,Prod.mk.injEq] at h
  obtain ⟨rfl,rfl,rfl⟩:=h
  cases ht with
  | hit hi hu=>exact ⟨_,_,_,rfl,hi,rfl,hu⟩
  | miss _ _ h=>cases h
theorem TakeR.okXk {p:List C} (hp:∀ cl∈p,pU cl) (hpl:p.length<=1000000) {k:Nat} {s s':Se} {c:Ch} (h:TakeR p s c (some s')) (hc:ix c) (hr:okRk k c) (hn:s.saved.length=s.st.chs.length)
  (hcs:∀ d∈s.st.chs,okRk k d) (hcn:s.st.chs.length<=k) (hst:okLp c.binds.length s.steps) (hsn:s.steps.length<=k)
  (hsv:∀ i (h:i<s.st.chs.length) (h':i<s.saved.length),okLp s.st.chs[i].binds.length s.saved[i]) (hsvn:∀ l∈s.saved,l.length<=k):okXk (k+1) s':=by
 cases h with
 | @yes u i l hF=>
  obtain ⟨n,cl,st,rfl,hi,rfl,hu⟩:=hF.of _ _ _ rfl
  have hm:=hp cl (List.mem_of_getElem? hi)
  obtain ⟨hg,_⟩:=hu.good (nG hc cl) (wN hc hm.cf)
  have htab:tabM st:=hu.okM (hr.tab.grow _) ⟨hr.goal,nE _ _ hm.hd⟩
  have hlen:=hg.len
  have hfr:=hm.fr
  have hln:=hm.ln
  have hnb:=hr.nb
  have hnr:=hr.nr
  have hpos:=hr.pos
  have hrn:okRk (k+1) ⟨c.goal,c.rest,l,c.binds⟩:=okRk.up ⟨hnb,hnr,hr.tab,hr.goal,hr.rest,hpos⟩
  refine ⟨?_,?_,?_,?_,htab,?_,?_,?_,?_,?_,?_⟩
  ·simp only [gA,jq]; omega
  ·simp only [gA,jq,List.length_append,List.length_map]; omega
  ·simp only [gA,List.length_append]; split <;> simp <;> omega
  ·simp only [gA,List.length_append,List.length_singleton]; omega
  ·intro g hg
   simp only [gA,jq] at hg
   rcases List.mem_append.1 hg with hg|hg
   ·obtain ⟨t,ht,rfl⟩:=List.mem_map.1 hg
    exact nE _ _ (hm.bd t ht)
   ·exact hr.rest g hg
  ·intro d hd
   simp only [gA] at hd
   rcases List.mem_append.1 hd with hd|hd
   ·exact (hcs d hd).up
   ·split at hd
    ·cases hd
    ·rw [List.mem_singleton] at hd
     subst hd
     exact hrn
  ·intro x hx
   simp only [gA,jq] at hx ⊢
   rcases List.mem_append.1 hx with hx|hx
   ·exact hst.mono (by omega) x hx
   ·rw [List.mem_singleton] at hx
    subst hx
    simp only [Int.toNat_natCast,hi,Option.elim_some]
    exact ⟨⟨iO (by omega) _ hc.goal.1,hc.goal.2⟩,by omega,by omega,by omega,by have:=(List.getElem?_eq_some_iff.1 hi).1; omega⟩
  ·intro j h1 h2
   simp only [gA] at h1 h2 ⊢
   by_cases hl:l=[]
   ·subst hl
    simp only [if_pos,List.append_nil] at h1 h2 ⊢
    exact hsv j h1 h2
   ·simp only [if_neg hl,List.length_append,List.length_singleton] at h1 h2 ⊢
    by_cases hk:j<s.st.chs.length
    ·rw [List.getElem_append_left hk,List.getElem_append_left (by omega)]
     exact hsv j hk (by omega)
    ·have hk1:j=s.st.chs.length:=by omega
     subst hk1
     rw [List.getElem_append_right (Nat.le_refl _),List.getElem_append_right (by omega)]
     simp only [hn,Nat.sub_self,List.getElem_cons_zero]
     exact hst
  ·intro q hq
   simp only [gA] at hq
   rcases List.mem_append.1 hq with hq|hq
   ·have:=hsvn q hq; omega
   ·split at hq
    ·cases hq
    ·rw [List.mem_singleton] at hq
     subst hq
     omega
  ·simp only [gA,jq]; omega
def okBL (cs:List Ch) (ss:List (List Sp)):Prop:=∀ i (h:i<cs.length) (h':i<ss.length),okLp cs[i].binds.length ss[i]
theorem okBL.last {cs:List Ch} {ss:List (List Sp)} {c:Ch} {t:List Sp} (h:okBL (cs++[c]) (ss++[t])) (hl:cs.length=ss.length):okBL cs ss/\okLp c.binds.length t:=by
 constructor
 ·intro i h1 h2
  have:=h i (by simp; omega) (by simp; omega)
  rw [List.getElem_append_left h1,List.getElem_append_left h2] at this
  exact this
 ·have:=h cs.length (by simp) (by simp [hl])
  rw [List.getElem_append_right (Nat.le_refl _),List.getElem_append_right (by omega)] at this
  simp only [hl,Nat.sub_self,List.getElem_cons_zero] at this
  exact this
theorem BackR.okXk {p:List C} (hp:∀ cl∈p,pU cl) (hpl:p.length<=1000000) {k:Nat} {cs:List Ch} {ss:List (List Sp)} {o:Option Se} (h:BackR p cs ss o):cs.length=ss.length->(∀ c∈cs,ix c/\okRk k c)->cs.length<=k->okBL cs ss->(∀ l∈ss,l.length<=k)->∀ s,o=some s->Go.Proofs.YtfcbhfjomgopbaaGreat.okXk (k+1) s:=by
 induction h with
 | nil=>intro _ _ _ _ _ s h; cases h
 | hit ht=>
  intro hl hh hk hb hv s h
  simp only [List.length_append,List.length_singleton,Nat.add_right_cancel_iff] at hl hk
  rw [Option.some.injEq] at h
  subst h
  obtain ⟨h1,h2⟩:=hb.last hl
  exact ht.okXk hp hpl (hh _ (by simp)).1 (hh _ (by simp)).2 hl.symm (fun d hd=>(hh d (List.mem_append_left _ hd)).2) (by simp only; omega) h2 (hv _ (by simp)) h1 fun l hl=>hv l (List.mem_append_left _ hl)
 | miss _ _ ih=>
  intro hl hh hk hb hv
  simp only [List.length_append,List.length_singleton,Nat.add_right_cancel_iff] at hl hk
  exact ih hl (fun d hd=>hh d (List.mem_append_left _ hd)) (by omega) (hb.last hl).1 fun l hl=>hv l (List.mem_append_left _ hl)
theorem OneR.okXk {p:List C} (hp:∀ cl∈p,pU cl) (hpl:p.length<=1000000) {k:Nat} {s s':Se} {e:Int} (h:OneR p s s' e) (hs:jN p.length s) (hx:okXk k s):okXk (k+1) s'/\(e=-2->s'=s):=by
 have hgo:=hs.st.goals
 have hgm:=hx.goals
 cases h with
 | big=>exact ⟨hx.up,fun _=>rfl⟩
 | stuck=>exact ⟨hx.up,fun _=>rfl⟩
 | fail=>exact ⟨hx.up,fun _=>rfl⟩
 | err=>exact ⟨hx.up,fun _=>rfl⟩
 | @took g rest u _ hg hu hsm _ _ ht=>
  rw [hg] at hgo hgm
  have hou:=jt hs.st.good hu (hgo _ (List.mem_cons_self ..)).1
  have hw:=jg hsm hou
  have hum:okM u:=Res.okM hx.tab hu (hgm _ (List.mem_cons_self ..))
  have hng:=hx.ng
  rw [hg,List.length_cons] at hng
  refine ⟨ht.okXk hp hpl ⟨hs.st.good,⟨hou,by simp only; omega⟩,fun x hx=>hgo x (List.mem_cons_of_mem _ hx)⟩ ⟨hx.nb,by simp only; omega,hx.tab,hum,fun x hx=>hgm x (List.mem_cons_of_mem _ hx),hx.pos⟩ hs.len hx.chs hx.nc hx.steps hx.ns hx.saved hx.nv,fun e=>(by cases e)⟩
 | @solved g rest u st hg hu hsm _ hb hB=>
  rw [hg] at hgo hgm
  have hou:=jt hs.st.good hu (hgo _ (List.mem_cons_self ..)).1
  have hw:=jg hsm hou
  have hum:okM u:=Res.okM hx.tab hu (hgm _ (List.mem_cons_self ..))
  have hgd:=hB.good hs.st.good hb ⟨hou,by omega⟩
  have hl:=hgd.len
  have hng:=hx.ng
  rw [hg,List.length_cons] at hng
  have hnb:=hx.nb
  have hns:=hx.ns
  have hpos:=hx.pos
  refine ⟨⟨by simp only; omega,by simp only; omega,by have:=hx.nc; simp only; omega,by simp only [List.length_append,List.length_singleton]; omega,hB.okM hx.tab hum,fun x h=>hgm x (List.mem_cons_of_mem _ h),fun c hc=>(hx.chs c hc).up,?_,hx.saved,fun l hl=>by have:=hx.nv l hl; omega,by simp only; omega⟩,fun e=>(by cases e)⟩
  intro x h
  simp only at h ⊢
  rw [hl]
  rcases List.mem_append.1 h with h|h
  ·exact hx.steps x h
  ·rw [List.mem_singleton] at h
   subst h
   exact ⟨⟨hou,by simp only; omega⟩,by simp,by simp,by simp,by simp⟩
theorem xJ {t:T} (hm:okM t):okXk 0 (ft t):=by
 refine ⟨by simp [ft],by simp [ft],by simp [ft],by simp [ft],tabM.none 26,?_,fun c hc=>(by cases hc),fun x hx=>(by cases hx),fun i h=>(by simp [ft] at h),fun l hl=>(by cases hl),by simp [ft]⟩
 intro g hg
 simp only [ft,List.mem_singleton] at hg
 subst hg
 exact nE _ _ hm
theorem Srch.okXk {p:List C} (hp:∀ cl∈p,pU cl) (hpl:p.length<=1000000) {n:Nat} {s:Se} {o:Option Se} (h:Srch p n s o):∀ k,jN p.length s->Go.Proofs.YtfcbhfjomgopbaaGreat.okXk k s->∀ t,o=some t->Go.Proofs.YtfcbhfjomgopbaaGreat.okXk (k+n) t:=by
 induction h with
 | @done n s hg=>
  intro k h1 h2 t h
  rw [Option.some.injEq] at h
  subst h
  induction n with
  | zero=>exact h2
  | succ n ih=>exact ih.up
 | out=>intro _ _ _ t h; cases h
 | halt=>intro _ _ _ t h; cases h
 | stop=>intro _ _ _ t h; cases h
 | @step n _ _ _ hg h1 _ ih=>
  intro k hs hx t h
  have:=ih (k+1) (h1.ok (fun cl hc=>(hp cl hc).cf) hs) (h1.okXk hp hpl hs hx).1 t h
  rwa [show k+(n+1)=k+1+n by omega]
 | @back n _ s' _ _ hg h1 h2 _ ih=>
  intro k hs hx t h
  have hs':=h1.ok (fun cl hc=>(hp cl hc).cf) hs
  have e:=(h1.okXk hp hpl hs hx).2 rfl
  subst e
  have:=ih (k+1) (h2.ok (fun cl hc=>(hp cl hc).cf) hs.len.symm hs.st.chs hs.left _ rfl) (h2.okXk hp hpl hs.len.symm (fun c hc=>⟨hs.st.chs c hc,hx.chs c hc⟩) hx.nc hx.saved hx.nv _ rfl) t h
  rwa [show k+(n+1)=k+1+n by omega]
end Go.Proofs.YtfcbhfjomgopbaaGreat

/- spec: the variables of a proof (l13Vars). -/
namespace Go.Proofs.YtfcbhfjomgopbaaGreat
open Go Go.RowKit
mutual
def pvT:PF->List Int->List Int
 | .mk g _ ks,l=>pvL ks (eD g l)
def pvL:List PF->List Int->List Int
 | [],l=>l
 | p::ps,l=>pvL ps (pvT p l)
end
mutual
def pcT:PF->Int
 | .mk g _ ks=>dw g+pcL ks
def pcL:List PF->Int
 | []=>0
 | p::ps=>pcT p+pcL ps
end
mutual
theorem IA:∀ p:PF,0<=pcT p
 | .mk g _ ks=>by
  have:=iY g
  have:=wI ks
  rw [pcT]; omega
theorem wI:∀ ps:List PF,0<=pcL ps
 | []=>by rw [pcL]; omega
 | p::ps=>by
  have:=IA p
  have:=wI ps
  rw [pcL]; omega
end
mutual
theorem GL:∀ (p:PF) (l:List Int),((pvT p l).length:Int)<=l.length+pcT p
 | .mk g _ ks,l=>by
  have h1:=kr g l
  have h2:=Kq ks (eD g l)
  rw [pvT,pcT]; omega
theorem Kq:∀ (ps:List PF) (l:List Int),((pvL ps l).length:Int)<=l.length+pcL ps
 | [],l=>by rw [pvL,pcL]; omega
 | p::ps,l=>by
  have h1:=GL p l
  have h2:=Kq ps (pvT p l)
  rw [pvL,pcL]; omega
end
theorem JM (ps:List PF) (j:Nat) (h:j<ps.length) (l:List Int):pvL (ps.drop j) l=pvL (ps.drop (j+1)) (pvT ps[j] l):=by
 rw [List.drop_eq_getElem_cons h,pvL]
theorem Jg (ps:List PF) (j:Nat) (h:j<ps.length):pcL (ps.drop j)=pcT ps[j]+pcL (ps.drop (j+1)):=by
 rw [List.drop_eq_getElem_cons h,pcL]
section
attribute [local irreducible] Run CondV ag aO
theorem zp:∀ (p:PF) (S:al) (cs:List Value) (v:Value) (l:List Int),RdF S cs p->l.length+pcT p<=1000000000->Tri Tryz.prog EK [v,.agg cs.toArray] [ge v l] S (Ea S (pvT p l)):=by
 refine PF.ind fun g c ks ih S cs v l h hl=>?_
 intro w hI
 obtain ⟨kv,kp,rfl,hg,_,hks⟩:=RdF.iff.1 h
 simp only [PF.goal,PF.clause,PF.kids] at hg hks ⊢
 have hlen:=hks.le
 simp only [maxLen] at hlen
 rw [pcT] at hl
 have hcp:=wI ks
 refine vY ?_
 unfold qO
 refine bS hI fun b3 w' hI=>?_
 have hI:Inv w (bW [ge v l]) [.blk b3 (.cells #[.int .i64 g.kind,.int .i64 g.n,.string g.name,kv,.int .i64 c,kp] au),ge v l] S w':=hI.perm (List.Perm.swap _ _ _)
 refine aI fZ ?_
 refine cN hI 0 [.int .i64 g.kind,.int .i64 g.n,.string g.name,kv] ai rfl rfl E9 ?_
 refine Run.call (A:=[_]) ie g9 hI (ip g S _ v l hg (by omega)) fun v' I' S' w'=>?_
 rintro ⟨rfl,rfl⟩ _ hI
 have hl1:=kr g l
 refine ⟨fun i t w'=>∃ (j:Nat) (r:List Int),j<=ks.length/\i=.int .i64 j/\pvL (ks.drop j) r=pvT (.mk g c ks) l/\r.length+pcL (ks.drop j)<=1000000000/\
   Inv w (bW [ge v l]) [.blk b3 (.cells #[.int .i64 g.kind,.int .i64 g.n,.string g.name,kv,.int .i64 c,kp] au),ge t r] S' w',
  fun i _ _=>ks.length - (intOf i).toNat,⟨0,_,Nat.zero_le _,rfl,by rw [List.drop_zero,pvT],by rw [List.drop_zero]; omega,hI⟩,?_⟩
 intro t5 _ _ t0 _ _ _ _ _ _ _ _ _ _ _ _ w'
 rintro ⟨j,r,hj,rfl,hvs,hr,hI⟩
 refine ao hI 0 rfl bQ bY rfl ?_
 refine bp hks cA ?_
 refine cg ?_
 refine bz (fun hji=>?_) (fun hji=>?_)
 ·have hj':j<ks.length:=by omega
  rw [JM ks j hj'] at hvs
  rw [Jg ks j hj'] at hr
  have hp1:=wI (ks.drop (j+1))
  have hp2:=GL ks[j] r
  refine ao hI 0 rfl bQ bY rfl ?_
  refine cJ hI hks cA bA hj' (fun _ _=>RdF.length) fun cs' hcs'=>?_
  refine Run.call (A:=[_]) ql rB hI (ih _ (List.getElem_mem hj') S' cs' t0 r hcs' (by omega)) fun v' I' S2 w'=>?_
  rintro ⟨rfl,rfl⟩ _ hI
  refine bT (by omega) ?_
  exact ⟨⟨j+1,_,hj',rfl,hvs,by omega,hI⟩,by simp [intOf]; omega⟩
 have:j=ks.length:=by omega
 subst this
 rw [List.drop_length,pvL] at hvs
 subst hvs
 exact ⟨_,_,_,rfl,hI.pick [false,true],Ext.refl _ _ _,rfl,rfl⟩
end
end Go.Proofs.YtfcbhfjomgopbaaGreat
