/- How many answers a search that comes to its end has: the tree of the search, counted; a program with fewer clauses has no more answers. No program in sight. -/
import Derived.Test.YtgllldjiaglkcaaGreatDoorZDr18
import Derived.Test.YtgllldjiaglkcaaGreatDoorZDr11
import Derived.Test.YtgllldjiaglkcaaGreatDoorZDr1
import Derived.Test.YtgllldjiaglkcaaGreatDoorZDr14
import Derived.Test.YtgllldjiaglkcaaGreatDoorZDr10
import Derived.Test.YtgllldjiaglkcaaGreatDoorZDr15
namespace Go.Proofs.YtgllldjiaglkcaaGreatDoor
section
open Go Go.RowKit
inductive AJ where
 | node (gs:List T)
 | alts (t:T) (gs:List T) (cs:List C)
def okT (st:ag) (t:T):Prop:=(okU st.length t/\wT t<=1048576)/\t.kind=3
structure okNd (st:ag) (gs:List T):Prop where
 good:Good st.length st
 gs:∀ g∈gs,okU st.length g/\g.kind=3
abbrev Nr (p:List C) (t:T):List C:=p.filter fun c=>kB (bU c.head) (bU t)
inductive Ans (p:List C):ag->AJ->Nat->Prop
 | done {st:ag}:okNd st []->Ans p st (.node []) 1
 | solved {st st':ag} {g t:T} {gs:List T} {n:Nat}:okNd st (g::gs)->okT st t->Res st (.one g t)->bB t=true->Blt st t 0 st'->Ans p st' (.node gs) n->Ans p st (.node (g::gs)) n
 | fail {st st':ag} {g t:T} {gs:List T}:okNd st (g::gs)->okT st t->Res st (.one g t)->bB t=true->Blt st t 1 st'->Ans p st (.node (g::gs)) 0
 | plain {st:ag} {g t:T} {gs:List T} {n:Nat}:okNd st (g::gs)->okT st t->Res st (.one g t)->bB t=false->Ans p st (.alts t gs (Nr p t)) n->Ans p st (.node (g::gs)) n
 | nil {st:ag} {t:T} {gs:List T}:Ans p st (.alts t gs []) 0
 | hit {st st':ag} {t:T} {gs:List T} {c:C} {cs:List C} {m k n:Nat}:okNd st (t::gs)->okT st t->ie c->st.length<=m->Uni (g26 (be st m)) (.one t (bv m c.head)) true st'->Ans p st' (.node (c.body.map (bv m)++gs)) k->
   Ans p st (.alts t gs cs) n->Ans p st (.alts t gs (c::cs)) (k+n)
 | miss {st st':ag} {t:T} {gs:List T} {c:C} {cs:List C} {m n:Nat}:okNd st (t::gs)->okT st t->ie c->st.length<=m->Uni (g26 (be st m)) (.one t (bv m c.head)) false st'->Ans p st (.alts t gs cs) n->Ans p st (.alts t gs (c::cs)) n
def yM (st:ag) (os gs:List T) (v w:List T):Prop:=∃ σ,lw σ st/\sbL σ os=v/\sbL σ gs=w
def SimN (st:ag) (os gs:List T) (st':ag) (os' gs':List T):Prop:=∀ v w,yM st os gs v w↔yM st' os' gs' v w
theorem SimN.refl (st:ag) (os gs:List T):SimN st os gs st os gs:=fun _ _=>Iff.rfl
theorem SimN.symm {st st':ag} {os gs os' gs':List T} (h:SimN st os gs st' os' gs'):SimN st' os' gs' st os gs:=fun v w=>(h v w).symm
theorem SimN.trans {a b c:ag} {oa ga ob gb oc gc:List T} (h:SimN a oa ga b ob gb) (h':SimN b ob gb c oc gc):SimN a oa ga c oc gc:=fun v w=>(h v w).trans (h' v w)
theorem JQ (σ:Int->T):∀ a b:List T,sbL σ (a++b)=sbL σ a++sbL σ b
 | [],b=>rfl
 | x::a,b=>by rw [List.cons_append,sbL,sbL,JQ σ a b,List.cons_append]
theorem fD {st:ag} (hg:Good st.length st) {g t:T} (ho:okU st.length g) (hr:Res st (.one g t)) (os gs:List T):SimN st os (g::gs) st os (t::gs):=by
 intro v w
 have e:∀ σ,lw σ st->sbL σ (g::gs)=sbL σ (t::gs):=fun σ hs=>by rw [sbL,sbL,Nt hg hs hr ho]
 exact ⟨fun ⟨σ,h1,h2,h3⟩=>⟨σ,h1,h2,by rw [<- e σ h1]; exact h3⟩,fun ⟨σ,h1,h2,h3⟩=>⟨σ,h1,h2,by rw [e σ h1]; exact h3⟩⟩
theorem zH {st:ag} (hg:Good st.length st) (os gs:List T):∃ v w,yM st os gs v w:=⟨_,_,_,Nq hg idS,rfl,rfl⟩
theorem Jy {st st':ag} {t:T} {c:C} {m:Nat} {r:Bool} (hg:Good st.length st) (ht:okT st t) (hc:ie c) (hm:st.length<=m) (hu:Uni (g26 (be st m)) (.one t (bv m c.head)) r st') {os gs:List T} (ho:bH st.length os) (hgs:bH st.length gs) :
  (∀ v x,(r=true/\yM st' os (c.body.map (bv m)++gs) v x)↔∃ w0 w τ,yM st os (t::gs) v (w0::w)/\sbT τ c.head=w0/\x=sbL τ c.body++w):=by
 have hlen:(g26 (be st m)).length=m+26:=by rw [iL,bG hm]
 have hgd:Good (m+26) (g26 (be st m)):=by
  have:=(hg.to hm).grow 26
  exact this
 have hj:okJ (m+26) (.one t (bv m c.head)):=by
  have:=Jc (st:=be st m) (g:=t) (cl:=c) (by rw [bG hm]; exact ⟨fm hm _ ht.1.1,ht.1.2⟩) hc
  rw [bG hm] at this
  exact this
 have hsol:∀ σ,lw σ (g26 (be st m))↔lw σ st:=fun σ=>(BW σ (be st m) 26).trans (BW σ st _)
 have hbody:∀ σ:Int->T,sbL σ (c.body.map (bv m)++gs)=sbL (fun n=>σ (n+m)) c.body++sbL σ gs:=fun σ=>by rw [JQ,<- jl,ul]
 intro v x
 constructor
 ·rintro ⟨hr,σ,h1,h2,h3⟩
  obtain ⟨k1,k2⟩:=((hu.sem hgd hj σ).1 hr).1 h1
  have k2:sbT σ t=sbT σ (bv m c.head):=k2
  refine ⟨sbT σ t,sbL σ gs,fun n=>σ (n+m),⟨σ,(hsol σ).1 k1,h2,by rw [sbL]⟩,?_,?_⟩
  ·rw [k2,vk]
  ·rw [<- h3,hbody]
 ·rintro ⟨w0,w,τ,⟨σ,h1,h2,h3⟩,h4,rfl⟩
  rw [sbL,List.cons.injEq] at h3
  have hlo:∀ n:Int,0<=n->n<(st.length:Int)->σ n=Bt m σ τ n:=fun n h0 hn=>NU σ τ n h0 (by omega)
  have hs:lw (Bt m σ τ) st:=Hl hg hlo h1
  have hje:Jeq (Bt m σ τ) (.one t (bv m c.head)):=by
   show sbT _ t=sbT _ (bv _ c.head)
   rw [NF σ τ hc.head.1.1,h4,<- h3.1]
   exact (pF hlo t ht.1.1).symm
  have hsem:=hu.sem hgd hj (Bt m σ τ)
  cases r with
  | false=>exact absurd hje (hsem.2 rfl ((hsol _).2 hs))
  | true=>
   refine ⟨rfl,_,(hsem.1 rfl).2 ⟨(hsol _).2 hs,hje⟩,?_,?_⟩
   ·rw [<- kZ hlo os ho]; exact h2
   ·rw [hbody,<- kZ hlo gs hgs,h3.2]
    congr 1
    refine kZ (N:=26) (fun n h0 _=>?_) c.body (ma fun b hb=>(hc.body b hb).1.1)
    show Bt m σ τ (n+m)=τ n
    rw [Bt,if_neg (by omega)]
    congr 1
    omega
theorem Jg {st st' s2 s2':ag} {t u:T} {c:C} {m n:Nat} {r r':Bool} (hg:Good st.length st) (ht:okT st t) (hc:ie c) (hm:st.length<=m) (hu:Uni (g26 (be st m)) (.one t (bv m c.head)) r st')
  (hg2:Good s2.length s2) (hu2:okT s2 u) (hn:s2.length<=n) (huu:Uni (g26 (be s2 n)) (.one u (bv n c.head)) r' s2') {os gs os' gs':List T} (ho:bH st.length os) (hgs:bH st.length gs) (ho':bH s2.length os') (hgs':bH s2.length gs')
  (hgd:r=true->Good st'.length st') (hgd':r'=true->Good s2'.length s2')
  (hS:SimN st os (t::gs) s2 os' (u::gs')):r=r'/\(r=true->SimN st' os (c.body.map (bv m)++gs) s2' os' (c.body.map (bv n)++gs')):=by
 have k1:=Jy hg ht hc hm hu ho hgs
 have k2:=Jy hg2 hu2 hc hn huu ho' hgs'
 have k3:∀ v x,(r=true/\yM st' os (c.body.map (bv m)++gs) v x)↔(r'=true/\yM s2' os' (c.body.map (bv n)++gs') v x):=by
  intro v x
  rw [k1,k2]
  exact ⟨fun ⟨w0,w,τ,h,h2⟩=>⟨w0,w,τ,(hS _ _).1 h,h2⟩,fun ⟨w0,w,τ,h,h2⟩=>⟨w0,w,τ,(hS _ _).2 h,h2⟩⟩
 have e:r=r':=by
  cases r with
  | true=>
   obtain ⟨v,x,h⟩:=zH (hgd rfl) os (c.body.map (bv m)++gs)
   exact ((k3 v x).1 ⟨rfl,h⟩).1.symm
  | false=>
   cases r' with
   | false=>rfl
   | true=>
    obtain ⟨v,x,h⟩:=zH (hgd' rfl) os' (c.body.map (bv n)++gs')
    exact ((k3 v x).2 ⟨rfl,h⟩).1
 refine ⟨e,fun hr v x=>?_⟩
 have:=k3 v x
 rw [<- e,hr] at this
 simpa using this
theorem lG {st st':ag} {t u:T} {os gs os' gs':List T} (hg:Good st.length st) (ht:t.kind=3) (hu:u.kind=3) (hS:SimN st os (t::gs) st' os' (u::gs')):sameHd t u:=by
 obtain ⟨v,w,h⟩:=zH hg os (t::gs)
 obtain ⟨σ,_,_,h1⟩:=id h
 obtain ⟨τ,_,_,h2⟩:=(hS v w).1 h
 rw [<- h1,sbL,sbL,List.cons.injEq] at h2
 have e1:=OS σ (t:=t) (by omega)
 have e2:=OS τ (t:=u) (by omega)
 rw [h2.1] at e2
 exact ⟨e2.1.symm.trans e1.1,e2.2.1.symm.trans e1.2.1,e2.2.2.symm.trans e1.2.2⟩
theorem xU {st st':ag} {os gs os' gs':List T} (hg:Good st.length st) (hS:SimN st os gs st' os' gs'):gs'.length=gs.length:=by
 obtain ⟨v,w,h⟩:=zH hg os gs
 obtain ⟨σ,_,_,h1⟩:=id h
 obtain ⟨τ,_,_,h2⟩:=(hS v w).1 h
 rw [<- pw σ gs,<- pw τ gs',h1,h2]
theorem JP {st st':ag} {t:T} {code:Int} (hg:Good st.length st) (ht:okT st t) (hb:bB t=true) (hp:dx t=true) (hB:Blt st t code st') (os gs:List T) :
  ∃ F:T->Prop,(∀ v w,(code=0/\yM st' os gs v w)↔∃ w0,F w0/\yM st os (t::gs) v (w0::w))/\F=(fun w0=>if t.name=nEq then kd w0 0=kd w0 1 else t.name=gB):=by
 refine ⟨_,fun v w=>?_,rfl⟩
 rw [dx,Bool.or_eq_true] at hp
 rcases hp with hp|hp
 ·have:=(pK hp rfl).2
  rw [hb] at this
  cases this
 rw [bO,List.any_eq_true] at hp
 obtain ⟨x,hx,he⟩:=hp
 have he:=of_decide_eq_true he
 have hB:BltJ st (eG t) code st':=hB
 simp only [List.mem_cons,List.not_mem_nil,or_false] at hx
 have hk:t.kind≠1:=by have:=ht.2; omega
 rcases hx with rfl|rfl|rfl
 ·simp only [if_pos he]
  rw [blt_eq he] at hB
  obtain ⟨r,hu,rfl⟩:=hB
  have h2:=PL he hb
  have hj:okJ st.length (.one (kd t 0) (kd t 1)):=⟨ql ht.1 (by omega),ql ht.1 (by omega)⟩
  have e:∀ σ:Int->T,Jeq σ (.one (kd t 0) (kd t 1))↔kd (sbT σ t) 0=kd (sbT σ t) 1:=fun σ=>by
   rw [ON σ hk (by omega),ON σ hk (by omega)]
   exact Iff.rfl
  constructor
  ·rintro ⟨hc,σ,h1,h2,h3⟩
   have hr:r=true:=by
    cases r with
    | true=>rfl
    | false=>cases hc
   obtain ⟨q1,q2⟩:=((hu.sem hg hj σ).1 hr).1 h1
   exact ⟨sbT σ t,(e σ).1 q2,σ,q1,h2,by rw [sbL,h3]⟩
  ·rintro ⟨w0,hw,σ,h1,h2,h3⟩
   rw [sbL,List.cons.injEq] at h3
   obtain ⟨rfl,h3⟩:=h3
   have hsem:=hu.sem hg hj σ
   cases r with
   | false=>exact absurd ((e σ).2 hw) (hsem.2 rfl h1)
   | true=>exact ⟨rfl,σ,(hsem.1 rfl).2 ⟨h1,(e σ).2 hw⟩,h2,h3⟩
 ·have hne:t.name≠nEq:=by rw [he]; decide +kernel
  simp only [if_neg hne]
  rw [Nx he] at hB
  obtain ⟨rfl,rfl⟩:=hB
  constructor
  ·rintro ⟨_,σ,h1,h2,h3⟩
   exact ⟨_,he,σ,h1,h2,by rw [sbL,h3]⟩
  ·rintro ⟨w0,_,σ,h1,h2,h3⟩
   rw [sbL,List.cons.injEq] at h3
   exact ⟨rfl,σ,h1,h2,h3.2⟩
 ·have hne:t.name≠nEq:=by rw [he]; decide +kernel
  have hnt:t.name≠gB:=by rw [he]; decide +kernel
  simp only [if_neg hne]
  rw [MN he] at hB
  obtain ⟨rfl,rfl⟩:=hB
  exact ⟨fun h=>absurd h.1 (by decide),fun ⟨_,h,_⟩=>absurd h hnt⟩
theorem JW {st st' s2 s2':ag} {t u:T} {code code':Int} (hg:Good st.length st) (ht:okT st t) (hb:bB t=true) (hp:dx t=true) (hB:Blt st t code st') (hg2:Good s2.length s2) (hu:okT s2 u) (hB2:Blt s2 u code' s2')
  {os gs os' gs':List T} (hS:SimN st os (t::gs) s2 os' (u::gs')):(code=0->code'=0)/\(code=0->SimN st' os gs s2' os' gs'):=by
 have hd:=lG hg ht.2 hu.2 hS
 obtain ⟨F,k1,e1⟩:=JP hg ht hb hp hB os gs
 obtain ⟨F',k2,e2⟩:=JP hg2 hu (by rw [fW hd]; exact hb) (by rw [hY hd]; exact hp) hB2 os' gs'
 have eF:F'=F:=by rw [e1,e2,hd.2.1]
 rw [eF] at k2
 have k3:∀ v w,(code=0/\yM st' os gs v w)↔(code'=0/\yM s2' os' gs' v w):=by
  intro v w
  rw [k1,k2]
  exact ⟨fun ⟨w0,h,h2⟩=>⟨w0,h,(hS _ _).1 h2⟩,fun ⟨w0,h,h2⟩=>⟨w0,h,(hS _ _).2 h2⟩⟩
 have hgd:Good st'.length st':=by
  have:=hB.good hg hb ht.1
  have hl:=this.len
  rw [hl]; exact this
 have hc:code=0->code'=0:=fun h=>by
  obtain ⟨v,w,hi⟩:=zH hgd os gs
  exact ((k3 v w).1 ⟨h,hi⟩).1
 refine ⟨hc,fun h v w=>?_⟩
 have:=k3 v w
 rw [h,hc h] at this
 simpa using this
theorem Ans.node_ok {p:List C} {st:ag} {gs:List T} {n:Nat} (h:Ans p st (.node gs) n):okNd st gs:=by
 cases h with
 | done h=>exact h
 | solved h=>exact h
 | fail h=>exact h
 | plain h=>exact h
def GM:AJ->Prop
 | .node gs=>∀ g∈gs,dx g=true
 | .alts _ gs cs=>(∀ g∈gs,dx g=true)/\∀ c∈cs,∀ b∈c.body,dx b=true/\b.kind=3
theorem xO {st:ag} {gs:List T} (h:okNd st gs):bH st.length gs:=ma fun t ht=>(h.gs t ht).1
theorem okNd.tl {st:ag} {g:T} {gs:List T} (h:okNd st (g::gs)):okNd st gs:=⟨h.good,fun x hx=>h.gs x (List.mem_cons_of_mem _ hx)⟩
theorem Ans.mono {p d:List C} (hd:d.Sublist p) (hpu:∀ c∈p,∀ b∈c.body,dx b=true/\b.kind=3) {st:ag} {j:AJ} {n:Nat} (h:Ans p st j n):GM j->match j with
  | .node gs=>∀ s2 gs' n',Ans d s2 (.node gs') n'->SimN st [] gs s2 [] gs'->n'<=n
  | .alts t gs cs=>∀ s2 u gs' cs' n',Ans d s2 (.alts u gs' cs') n'->cs'.Sublist cs->SimN st [] (t::gs) s2 [] (u::gs')->n'<=n:=by
 induction h with
 | done ho=>
  intro _ s2 gs' n' h2 hS
  have:=xU ho.good hS
  obtain rfl:=List.eq_nil_of_length_eq_zero this
  cases h2 with
  | done _=>exact Nat.le_refl _
 | @solved st st' g t gs n ho hot hr hb hB _ ih=>
  intro hpj s2 gs' n' h2 hS
  have hg:=ho.gs g (List.mem_cons_self ..)
  have hl:=xU ho.good hS
  cases h2 with
  | done _=>simp at hl
  | fail=>exact Nat.zero_le _
  | @solved _ s2' g' t' gs'' _ ho' hot' hr' hb' hB' ha=>
   have hg':=ho'.gs g' (List.mem_cons_self ..)
   have hS':=((fD ho.good hg.1 hr [] gs).symm.trans hS).trans (fD ho'.good hg'.1 hr' [] gs'')
   have hpt:dx t=true:=by rw [hY (z7 hr (by omega))]; exact hpj g (List.mem_cons_self ..)
   exact ih (fun x hx=>hpj x (List.mem_cons_of_mem _ hx)) _ _ _ ha ((JW ho.good hot hb hpt hB ho'.good hot' hB' hS').2 rfl)
  | @plain _ g' t' gs'' _ ho' hot' hr' hb' ha=>
   have hg':=ho'.gs g' (List.mem_cons_self ..)
   have hS':=((fD ho.good hg.1 hr [] gs).symm.trans hS).trans (fD ho'.good hg'.1 hr' [] gs'')
   have:=fW (lG ho.good hot.2 hot'.2 hS')
   rw [hb,hb'] at this
   cases this
 | @fail st st' g t gs ho hot hr hb hB=>
  intro hpj s2 gs' n' h2 hS
  have hg:=ho.gs g (List.mem_cons_self ..)
  have hl:=xU ho.good hS
  cases h2 with
  | done _=>simp at hl
  | fail=>exact Nat.le_refl _
  | @solved _ s2' g' t' gs'' _ ho' hot' hr' hb' hB' ha=>
   have hg':=ho'.gs g' (List.mem_cons_self ..)
   have hS':=((fD ho.good hg.1 hr [] gs).symm.trans hS).trans (fD ho'.good hg'.1 hr' [] gs'')
   have hpt:dx t=true:=by rw [hY (z7 hr (by omega))]; exact hpj g (List.mem_cons_self ..)
   have hpt':dx t'=true:=by rw [hY (lG ho.good hot.2 hot'.2 hS')]; exact hpt
   have:=(JW ho'.good hot' hb' hpt' hB' ho.good hot hB hS'.symm).1 rfl
   cases this
  | @plain _ g' t' gs'' _ ho' hot' hr' hb' ha=>
   have hg':=ho'.gs g' (List.mem_cons_self ..)
   have hS':=((fD ho.good hg.1 hr [] gs).symm.trans hS).trans (fD ho'.good hg'.1 hr' [] gs'')
   have:=fW (lG ho.good hot.2 hot'.2 hS')
   rw [hb,hb'] at this
   cases this
 | @plain st g t gs n ho hot hr hb _ ih=>
  intro hpj s2 gs' n' h2 hS
  have hg:=ho.gs g (List.mem_cons_self ..)
  have hl:=xU ho.good hS
  cases h2 with
  | done _=>simp at hl
  | fail=>exact Nat.zero_le _
  | @solved _ s2' g' t' gs'' _ ho' hot' hr' hb' hB' ha=>
   have hg':=ho'.gs g' (List.mem_cons_self ..)
   have hS':=((fD ho.good hg.1 hr [] gs).symm.trans hS).trans (fD ho'.good hg'.1 hr' [] gs'')
   have:=fW (lG ho.good hot.2 hot'.2 hS')
   rw [hb,hb'] at this
   cases this
  | @plain _ g' t' gs'' _ ho' hot' hr' hb' ha=>
   have hg':=ho'.gs g' (List.mem_cons_self ..)
   have hS':=((fD ho.good hg.1 hr [] gs).symm.trans hS).trans (fD ho'.good hg'.1 hr' [] gs'')
   have hh:=lG ho.good hot.2 hot'.2 hS'
   refine ih ⟨fun x hx=>hpj x (List.mem_cons_of_mem _ hx),fun c hc=>hpu c (List.mem_filter.1 hc).1⟩ _ _ _ _ _ ha ?_ hS'
   unfold Nr
   rw [wa hh]
   exact hd.filter _
 | nil=>
  intro _ s2 u gs' cs' n' h2 hs _
  obtain rfl:=List.sublist_nil.1 hs
  cases h2 with
  | nil=>exact Nat.le_refl _
 | @hit st st' t gs c cs m k n ho hot hc hm hu ha _ ih1 ih2=>
  intro hpj s2 u gs' cs' n' h2 hs hS
  have hpj2:GM (.alts t gs cs):=⟨hpj.1,fun c hc=>hpj.2 c (List.mem_cons_of_mem _ hc)⟩
  cases hs with
  | cons _ hs=>exact Nat.le_trans (ih2 hpj2 _ _ _ _ _ h2 hs hS) (Nat.le_add_left ..)
  | cons_cons _ hs=>
   have hbp:GM (.node (c.body.map (bv m)++gs)):=fun x hx=>by
    rcases List.mem_append.1 hx with hx|hx
    ·obtain ⟨b,hb,rfl⟩:=List.mem_map.1 hx
     have h3:=hpj.2 c (List.mem_cons_self ..) b hb
     rw [hY (sameHd.shift _ b (by have:=h3.2; omega))]
     exact h3.1
    ·exact hpj.1 x hx
   cases h2 with
   | @hit _ s2' _ _ _ _ m' k' n'' ho' hot' _ hm' hu' ha1 ha2=>
    have hn:=ih2 hpj2 _ _ _ _ _ ha2 hs hS
    have hgd:Good st'.length st':=ha.node_ok.good
    have hgd':Good s2'.length s2':=ha1.node_ok.good
    have:=(Jg ho.good hot hc hm hu ho'.good hot' hm' hu' (os:=[]) (os':=[]) (by rw [bH]; trivial) (xO ho.tl) (by rw [bH]; trivial) (xO ho'.tl) (fun _=>hgd) (fun _=>hgd') hS).2 rfl
    have hk:=ih1 hbp _ _ _ ha1 this
    omega
   | miss _ _ _ _ _ ha2=>exact Nat.le_trans (ih2 hpj2 _ _ _ _ _ ha2 hs hS) (Nat.le_add_left ..)
 | @miss st st' t gs c cs m n ho hot hc hm hu _ ih=>
  intro hpj s2 u gs' cs' n' h2 hs hS
  have hpj2:GM (.alts t gs cs):=⟨hpj.1,fun c hc=>hpj.2 c (List.mem_cons_of_mem _ hc)⟩
  cases hs with
  | cons _ hs=>exact ih hpj2 _ _ _ _ _ h2 hs hS
  | cons_cons _ hs=>
   cases h2 with
   | @hit _ s2' _ _ _ _ m' k' n'' ho' hot' _ hm' hu' ha1 ha2=>
    have hgd':Good s2'.length s2':=ha1.node_ok.good
    have:=(Jg ho.good hot hc hm hu ho'.good hot' hm' hu' (os:=[]) (os':=[]) (by rw [bH]; trivial) (xO ho.tl) (by rw [bH]; trivial) (xO ho'.tl) (fun h=>by cases h) (fun _=>hgd') hS).1
    cases this
   | miss _ _ _ _ _ ha2=>exact ih hpj2 _ _ _ _ _ ha2 hs hS
def pk (p:List C) (l:List Int):List C:=l.filterMap fun i=>p[i.toNat]?
def gt (gs:List GI):List T:=gs.map GI.t
inductive AnsC (p:List C):List CI->Nat->Prop
 | nil:AnsC p [] 0
 | cons {c:CI} {cs:List CI} {k n:Nat}:Ans p c.binds (.alts c.goal (gt c.rest) (pk p c.left)) k->AnsC p cs n->AnsC p (c::cs) (k+n)
theorem AnsC.app {p:List C} {a b:List CI} {n:Nat}:AnsC p (a++b) n->∃ i j,AnsC p a i/\AnsC p b j/\n=i+j:=by
 induction a generalizing n with
 | nil=>exact fun h=>⟨0,n,.nil,h,by omega⟩
 | cons c a ih=>
  intro h
  cases h with
  | @cons _ _ k m h1 h2=>
   obtain ⟨i,j,q1,q2,rfl⟩:=ih h2
   exact ⟨k+i,j,.cons h1 q1,q2,by omega⟩
theorem AnsC.join {p:List C} {a b:List CI} {i j:Nat} (h:AnsC p a i) (h':AnsC p b j):AnsC p (a++b) (i+j):=by
 induction h with
 | nil=>simpa using h'
 | cons h1 _ ih=>rw [Nat.add_assoc]; exact .cons h1 ih
theorem sB {st:ag} {a b:Nat} (h:st.length<=a) (h':a<=b):be (be st a) b=be st b:=by
 unfold be
 rw [List.append_assoc,List.replicate_append_replicate]
 congr 2
 rw [List.length_append,List.length_replicate]
 omega
theorem Ans.shrink {p:List C} {st:ag} {a:Nat} (ha:st.length<=a) {t:T} {gs:List T} (hs:okNd st (t::gs)) (ht:okT st t):∀ {cs:List C} {k:Nat},Ans p (be st a) (.alts t gs cs) k->Ans p st (.alts t gs cs) k:=by
 intro cs
 induction cs with
 | nil=>intro k h; cases h; exact .nil
 | cons c cs ih=>
  intro k h
  cases h with
  | @hit _ st' _ _ _ _ m i n _ _ hc hm hu h1 h2=>
   rw [bG ha] at hm
   rw [sB ha hm] at hu
   exact .hit hs ht hc (by omega) hu h1 (ih h2)
  | @miss _ st' _ _ _ _ m n _ _ hc hm hu h2=>
   rw [bG ha] at hm
   rw [sB ha hm] at hu
   exact .miss hs ht hc (by omega) hu (ih h2)
theorem TryI.ans {p:List C} (hp:∀ cl∈p,ie cl) {g:T} {l:List Int} {st:ag} {o:Option HI} {n:Nat} (h:TryI p g l st o n):∀ (b:ag) (gs:List T),b.length<=st.length->st=be b st.length->okNd b (g::gs)->okT b g->
  (o=none->Ans p b (.alts g gs (pk p l)) 0)/\∀ r,o=some r->∀ i j,Ans p r.st (.node (r.cl.body.map (bv r.by_)++gs)) i->Ans p b (.alts g gs (pk p r.l)) j->Ans p b (.alts g gs (pk p l)) (i+j):=by
 induction h with
 | nil=>intro b gs _ _ _ _; exact ⟨fun _=>.nil,fun r h=>by cases h⟩
 | @hit i l cl st st' hi hu=>
  intro b gs hb he h1 h2
  refine ⟨fun h=>(by cases h),fun r h i' j k1 k2=>?_⟩
  cases h
  rw [he] at hu
  have e:pk p ((i:Int)::l)=cl::pk p l:=by rw [pk,List.filterMap_cons,Int.toNat_natCast,hi]; rfl
  rw [e]
  rw [bG hb] at hu
  exact .hit h1 h2 (hp _ (List.mem_of_getElem? hi)) hb hu k1 k2
 | @miss i l cl st st' o n hi hu _ ih=>
  intro b gs hb he h1 h2
  have hlen:=iL st
  have he2:g26 st=be b (g26 st).length:=by
   rw [hlen,<- rA hb,<- he]
  obtain ⟨q1,q2⟩:=ih b gs (by omega) he2 h1 h2
  rw [he] at hu
  have e:pk p ((i:Int)::l)=cl::pk p l:=by rw [pk,List.filterMap_cons,Int.toNat_natCast,hi]; rfl
  rw [e]
  rw [bG hb] at hu
  exact ⟨fun h=>.miss h1 h2 (hp _ (List.mem_of_getElem? hi)) hb hu (q1 h),fun r h i' j k1 k2=>.miss h1 h2 (hp _ (List.mem_of_getElem? hi)) hb hu (q2 r h i' j k1 k2)⟩
theorem NR (cl:C) (b:Nat) (k u:Int) (rest:List GI):gt (ji cl b k u rest)=cl.body.map (bv b)++gt rest:=by
 unfold gt ji
 rw [List.map_append,List.map_map]
 rfl
theorem Fh {p:List C} {cs:List CI} {ns:List NI} {g:T} {a:Int} {rest:List GI} {b:ag} {r:HI} {k m:Nat} (h1:Ans p (fO cs ns g a rest b r).st (.node (gt (fO cs ns g a rest b r).goals)) k) (h2:AnsC p (fO cs ns g a rest b r).chs m) :
  ∃ i j,Ans p r.st (.node (r.cl.body.map (bv r.by_)++gt rest)) k/\Ans p b (.alts g (gt rest) (pk p r.l)) i/\AnsC p cs j/\m=j+i:=by
 have h1:Ans p r.st (.node (gt (ji r.cl r.by_ cs.length a rest))) k:=h1
 rw [NR] at h1
 have h2:AnsC p (cs++(if r.l=[] then [] else [(⟨g,a,rest,r.l,b,ns.length⟩:CI)])) m:=h2
 obtain ⟨i,j,q1,q2,rfl⟩:=h2.app
 by_cases hl:r.l=[]
 ·rw [if_pos hl] at q2
  cases q2
  exact ⟨0,i,h1,by rw [hl]; exact .nil,q1,rfl⟩
 ·rw [if_neg hl] at q2
  cases q2 with
  | @cons _ _ k' n' q2 q3=>
   cases q3
   exact ⟨k',i,h1,q2,q1,rfl⟩
theorem BackI.ans {p:List C} (hp:∀ cl∈p,ie cl) {cs:List CI} {n:Nat} {ns:List NI} {o:Option SI} (h:BackI p cs n ns o):okCs p.length n ns.length cs->(∀ c∈cs,c.goal.kind=3/\∀ g∈c.rest,ncT g.t)->
  (o=none->AnsC p cs 0)/\∀ s,o=some s->∀ i j,Ans p s.st (.node (gt s.goals)) i->AnsC p s.chs j->AnsC p cs (i+j):=by
 have okc:∀ {k:Nat} {c:CI},okCI p.length k c->c.goal.kind=3->(∀ g∈c.rest,ncT g.t)->okNd c.binds (c.goal::gt c.rest)/\okT c.binds c.goal:=by
  intro k c hc h3 hr
  refine ⟨⟨hc.good,fun g hg=>?_⟩,hc.goal.1,h3⟩
  rcases List.mem_cons.1 hg with rfl|hg
  ·exact ⟨hc.goal.1.1,h3⟩
  ·obtain ⟨x,hx,rfl⟩:=List.mem_map.1 hg
   exact ⟨(hc.rest x hx).1.1.1.1,(hr x hx).1⟩
 induction h with
 | nil=>intro _ _; exact ⟨fun _=>.nil,fun s h=>by cases h⟩
 | @hit cs c n m ns r ht=>
  intro hcs hk
  refine ⟨fun h=>(by cases h),fun s h i j k1 k2=>?_⟩
  cases h
  obtain ⟨h1,h2,h3,h4⟩:=hcs.last
  obtain ⟨o1,o2⟩:=okc h2 (hk c (by simp)).1 (hk c (by simp)).2
  obtain ⟨i',j',q1,q2,q3,rfl⟩:=Fh k1 k2
  have hl:=bG h3
  have:=(ht.ans hp c.binds (gt c.rest) (by omega) (by rw [hl]) o1 o2).2 r rfl i i' q1 (Ans.shrink h3 o1 o2 q2)
  have h5:=q3.join (.cons this .nil)
  rw [show i+(j'+i')=j'+(i+i'+0) by omega]
  exact h5
 | @miss cs c n m ns o ht _ ih=>
  intro hcs hk
  obtain ⟨h1,h2,h3,h4⟩:=hcs.last
  obtain ⟨g1,g2,g3,g4⟩:=h2.grow h3
  obtain ⟨k1,_,_⟩:=ht.ok hp g1 g2 g3
  have hl:=bG h3
  rw [hl] at k1
  have hlt:(ns.take c.taken).length=c.taken:=by rw [List.length_take]; omega
  obtain ⟨o1,o2⟩:=okc h2 (hk c (by simp)).1 (hk c (by simp)).2
  have h0:=(ht.ans hp c.binds (gt c.rest) (by omega) (by rw [hl]) o1 o2).1 rfl
  obtain ⟨q1,q2⟩:=ih (by rw [hlt]; exact h1.mono k1 (Nat.le_refl _)) fun c hc=>hk c (List.mem_append_left _ hc)
  refine ⟨fun h=>?_,fun s h i j k1 k2=>?_⟩
  ·exact (q1 h).join (.cons h0 .nil)
  ·have:=(q2 s h i j k1 k2).join (.cons h0 .nil)
   simpa using this
structure Nk (s:SI):Prop where
 nc:Nc ncT s
 k3:∀ c∈s.chs,c.goal.kind=3
theorem JY {cs:List CI} {ns:List NI} {g:T} {a:Int} {rest:List GI} {b:ag} {r:HI} (h:∀ c∈cs,c.goal.kind=3) (hg:g.kind=3):∀ c∈(fO cs ns g a rest b r).chs,c.goal.kind=3:=by
 intro c hc
 have hc':c∈cs++(if r.l=[] then [] else [(⟨g,a,rest,r.l,b,ns.length⟩:CI)]):=hc
 rcases List.mem_append.1 hc' with hc'|hc'
 ·exact h c hc'
 ·split at hc'
  ·cases hc'
  ·rw [List.mem_singleton.1 hc']; exact hg
theorem BackI.k3 {p:List C} {cs:List CI} {n:Nat} {ns:List NI} {o:Option SI} (h:BackI p cs n ns o):(∀ c∈cs,c.goal.kind=3)->∀ s,o=some s->∀ c∈s.chs,c.goal.kind=3:=by
 induction h with
 | nil=>intro _ s h; cases h
 | hit ht=>
  intro h1 s h
  cases h
  exact JY (fun c hc=>h1 c (List.mem_append_left _ hc)) (h1 _ (by simp))
 | miss ht _ ih=>intro h1; exact ih fun c hc=>h1 c (List.mem_append_left _ hc)
theorem StepI.k3 {p:List C} {s:SI} {o:Option SI} {e:Int} {nc:Bool} (h:StepI p nc s o e) (hn:Nc ncT s) (hs:∀ c∈s.chs,c.goal.kind=3):∀ s',o=some s'->∀ c∈s'.chs,c.goal.kind=3:=by
 cases h with
 | large=>intro s' h; cases h
 | noCut=>intro s' h; cases h
 | err=>intro s' h; cases h
 | unknown=>intro s' h; cases h
 | cut hg=>intro s' h; cases h; exact fun c hc=>hs c (List.mem_of_mem_take hc)
 | solved hg=>intro s' h; cases h; exact hs
 | fail hg _ _ _ _ _ ho=>exact ho.k3 hs
 | took hg ht _ _ _ _ hT=>
  intro s' h; cases h
  have h3:=(hn.goals _ (by rw [hg]; exact List.mem_cons_self ..)).1
  exact JY hs ((z7 ht (by omega)).1.trans h3)
 | back hg _ _ _ _ _ _ ho=>exact ho.k3 hs
theorem StepI.ans {p:List C} (hp:∀ cl∈p,ie cl) {s:SI} {o:Option SI} {e:Int} (h:StepI p false s o e) (hs:pQ p.length s) (hk:Nk s) :
  (o=none->e=0->∃ j,AnsC p s.chs j/\j=0/\Ans p s.st (.node (gt s.goals)) 0)/\∀ s',o=some s'->∀ i j,Ans p s'.st (.node (gt s'.goals)) i->AnsC p s'.chs j->∃ i' j',Ans p s.st (.node (gt s.goals)) i'/\AnsC p s.chs j'/\i+j=i'+j':=by
 have cc:∀ c∈s.chs,c.goal.kind=3/\∀ g∈c.rest,ncT g.t:=fun c hc=>⟨hk.k3 c hc,hk.nc.chs c hc⟩
 have first:∀ {g:GI} {gs:List GI} {t:T},s.goals=g::gs->Res s.st (.one g.t t)->bw t=true->okNd s.st (g.t::gt gs)/\okNd s.st (t::gt gs)/\okT s.st t/\((okU s.st.length t/\wT t<=1048576)/\okM t)/\dI t=false:=by
  intro g gs t hg ht hsm
  have hg1:=hs.goals g (by rw [hg]; simp)
  obtain ⟨hut,hmt⟩:=px hs.good hg1.1.1 hs.tab ht
  have hw:=er hsm hut
  have h3:=hk.nc.goals g (by rw [hg]; simp)
  have hnt:=h3.hd (z7 ht (by have:=h3.1; omega))
  have hgs:∀ x∈gt gs,okU s.st.length x/\x.kind=3:=fun x hx=>by
   obtain ⟨y,hy,rfl⟩:=List.mem_map.1 hx
   exact ⟨(hs.goals y (by rw [hg]; exact List.mem_cons_of_mem _ hy)).1.1.1.1,(hk.nc.goals y (by rw [hg]; exact List.mem_cons_of_mem _ hy)).1⟩
  refine ⟨⟨hs.good,fun x hx=>?_⟩,⟨hs.good,fun x hx=>?_⟩,⟨⟨hut,by omega⟩,hnt.1⟩,⟨⟨hut,by omega⟩,hmt⟩,hnt.2⟩
  ·rcases List.mem_cons.1 hx with rfl|hx
   ·exact ⟨hg1.1.1.1.1,h3.1⟩
   ·exact hgs x hx
  ·rcases List.mem_cons.1 hx with rfl|hx
   ·exact ⟨hut,hnt.1⟩
   ·exact hgs x hx
 have efor:∀ t:T,pk p (fS p t)=Nr p t:=fun t=>by
  have h1:=congrArg (List.filterMap id) (nS p t)
  unfold cls at h1
  rw [List.filterMap_map,List.filterMap_map] at h1
  unfold pk Nr
  simpa [Function.comp_def] using h1
 have eg:∀ {g:GI} {gs:List GI},s.goals=g::gs->gt s.goals=g.t::gt gs:=fun h=>by rw [h]; rfl
 cases h with
 | large=>exact ⟨fun _ h=>absurd h (by decide),fun s' h=>by cases h⟩
 | noCut _ _ _ _ h=>cases h
 | err _ _ _ _ _ _ h0 _=>
  refine ⟨fun _ h=>absurd h ?_,fun s' h=>by cases h⟩
  unfold Im
  split
  ·decide
  split
  ·decide
  split <;> decide
 | unknown=>exact ⟨fun _ h=>absurd h (by decide),fun s' h=>by cases h⟩
 | cut hg ht hsm hcu _=>
  have:=(first hg ht hsm).2.2.2.2
  rw [hcu] at this
  cases this
 | @solved g gs t st hg ht hsm hcu hb hB=>
  obtain ⟨o1,o2,o3,o4,_⟩:=first hg ht hsm
  refine ⟨fun h=>(by cases h),fun s' h i j k1 k2=>?_⟩
  cases h
  rw [eg hg]
  exact ⟨i,j,.solved o1 o3 ht hb hB k1,k2,rfl⟩
 | @fail g gs t st o hg ht hsm hcu hb hB ho=>
  obtain ⟨o1,o2,o3,o4,_⟩:=first hg ht hsm
  obtain ⟨q1,q2⟩:=ho.ans hp (eB hs.chs ⟨t,g.up,-1⟩) cc
  rw [eg hg]
  exact ⟨fun h _=>⟨0,q1 h,rfl,.fail o1 o3 ht hb hB⟩,fun s' h i j k1 k2=>⟨0,i+j,.fail o1 o3 ht hb hB,q2 s' h i j k1 k2,by omega⟩⟩
 | @took g gs t r m hg ht hsm hcu hb hf hT=>
  obtain ⟨o1,o2,o3,o4,_⟩:=first hg ht hsm
  refine ⟨fun h=>(by cases h),fun s' h i j k1 k2=>?_⟩
  cases h
  obtain ⟨i',j',q1,q2,q3,rfl⟩:=Fh k1 k2
  have:=(hT.ans hp s.st (gt gs) (Nat.le_refl _) (fJ _).symm o2 o3).2 r rfl i i' q1 q2
  rw [efor] at this
  rw [eg hg]
  exact ⟨i+i',j',.plain o1 o3 ht hb this,q3,by omega⟩
 | @back g gs t m o hg ht hsm hcu hb hf hT ho=>
  obtain ⟨o1,o2,o3,o4,_⟩:=first hg ht hsm
  have h0:=(hT.ans hp s.st (gt gs) (Nat.le_refl _) (fJ _).symm o2 o3).1 rfl
  rw [efor] at h0
  obtain ⟨q1,q2⟩:=ho.ans hp ((eB hs.chs _).mono (hT.ok hp hs.good hs.tab o4).1 (Nat.le_refl _)) cc
  rw [eg hg]
  exact ⟨fun h _=>⟨0,q1 h,rfl,.plain o1 o3 ht hb h0⟩,fun s' h i j k1 k2=>⟨0,i+j,.plain o1 o3 ht hb h0,q2 s' h i j k1 k2,by omega⟩⟩
theorem RunI.ans {p:List C} (hp:∀ cl∈p,ie cl) (hb:∀ cl∈p,∀ b∈cl.body,ncT b) {vars:List Int} {most n:Nat} {s:SI} {out:List (List T)} {r:List (List T) × Int} (h:RunI p vars most n s out r) :
  pQ p.length s->Nk s->r.2=0->∃ i j,Ans p s.st (.node (gt s.goals)) i/\AnsC p s.chs j/\r.1.length=out.length+(i+j):=by
 have nil:∀ {s:SI},pQ p.length s->s.goals=[]->Ans p s.st (.node (gt s.goals)) 1:=fun hs h=>by
  rw [h]
  exact .done ⟨hs.good,fun x hx=>by cases hx⟩
 induction h with
 | fuel=>intro _ _ h; cases h
 | more=>intro _ _ h; cases h
 | large=>intro _ _ h; cases h
 | stop _ hst=>
  intro hs hk h
  obtain ⟨j,q1,rfl,q2⟩:=(hst.ans hp hs hk).1 rfl h
  exact ⟨0,0,q2,q1,rfl⟩
 | step _ hst _ ih=>
  intro hs hk h
  obtain ⟨i,j,k1,k2,k3⟩:=ih (hst.ok hp hs _ rfl).1 ⟨hst.nc K6 hb hk.nc _ rfl,hst.k3 hk.nc hk.k3 _ rfl⟩ h
  obtain ⟨i',j',q1,q2,q3⟩:=(hst.ans hp hs hk).2 _ rfl i j k1 k2
  exact ⟨i',j',q1,q2,by omega⟩
 | last hg _ _ hbk=>
  intro hs hk _
  have:=(hbk.ans hp hs.chs fun c hc=>⟨hk.k3 c hc,hk.nc.chs c hc⟩).1 rfl
  exact ⟨1,0,nil hs hg,this,by simp⟩
 | next hg _ _ hbk _ ih=>
  intro hs hk h
  obtain ⟨i,j,k1,k2,k3⟩:=ih (hbk.ok hp hs.chs _ rfl).1 ⟨hbk.nc K6 hb hk.nc.chs _ rfl,hbk.k3 hk.k3 _ rfl⟩ h
  have:=(hbk.ans hp hs.chs fun c hc=>⟨hk.k3 c hc,hk.nc.chs c hc⟩).2 _ rfl i j k1 k2
  refine ⟨1,_,nil hs hg,this,?_⟩
  rw [k3,List.length_append,List.length_cons,List.length_nil]
  omega
theorem LP {q:List T} (h:∀ t∈q,ncT t):Nk (fg q):=⟨Lf h,fun c hc=>by cases hc⟩
theorem SolR.fewer {p d:List C} (hp:zq p=true) (hd:d.Sublist p) {q:List T} (hq:∀ t∈q,dx t=true/\ncT t) {most most' fuel fuel':Nat} {r r':List (List T) × Int} (h:SolR p q most fuel r) (h':SolR d q most' fuel' r') (e:r.2=0) (e':r'.2=0):r'.1.length<=r.1.length:=by
 rcases h with ⟨hb,h⟩|⟨_,rfl⟩
 ·rcases h' with ⟨hb',h'⟩|⟨_,rfl⟩
  ·rw [Bool.and_eq_true] at hb hb'
   rw [zq,Bool.and_eq_true,List.all_eq_true] at hp
   have hpu:∀ c∈p,∀ b∈c.body,dx b=true:=fun c hc b hb=>List.all_eq_true.1 (hp.2 c hc) b hb
   have hnc:∀ cl∈p,∀ b∈cl.body,ncT b:=fun cl hc b hbm=>N9 (vm hb.1 hc hbm) (hpu cl hc b hbm)
   have hpk:∀ c∈p,∀ b∈c.body,dx b=true/\b.kind=3:=fun c hc b hb=>⟨hpu c hc b hb,(hnc c hc b hb).1⟩
   have hk:=LP fun t ht=>(hq t ht).2
   obtain ⟨i,j,q1,q2,q3⟩:=h.ans (gG hb.1).1 hnc (kR hb.2 _) hk e
   obtain ⟨i',j',q1',q2',q3'⟩:=h'.ans (gG hb'.1).1 (fun cl hc=>hnc cl (hd.subset hc)) (kR hb'.2 _) hk e'
   cases q2
   cases q2'
   have hpj:GM (.node (gt (fg q).goals)):=fun g hg=>by
    obtain ⟨x,hx,rfl⟩:=List.mem_map.1 hg
    obtain ⟨t,ht,rfl⟩:=List.mem_map.1 hx
    exact (hq t ht).1
   have:=Ans.mono hd hpk q1 hpj _ _ _ q1' (.refl _ _ _)
   simp only [List.length_nil] at q3 q3'
   omega
  ·cases e'
 ·cases e
end
section
open Go Go.RowKit
def okQ (s:ByteArray):Bool:=match mi 60 8 (bs s) 0 [] with
 | some (q,n)=>decide (n=s.size) && (cQ q && (decide (wL q<=300) && decide (s.size<=1000)))
 | none=>false
theorem Lr {s:ByteArray} (h:okQ s=true):∃ q,mi 60 8 (bs s) 0 []=some (q,s.size)/\cQ q=true/\wL q<=300/\s.size<=1000:=by
 unfold okQ at h
 split at h
 ·rename_i q n hq
  simp only [Bool.and_eq_true,decide_eq_true_eq] at h
  obtain ⟨rfl,h2,h3,h4⟩:=h
  exact ⟨q,hq,h2,h3,h4⟩
 ·cases h
theorem Ip {q:List T} (h:cQ q=true):q.length<=6:=by
 rw [cQ,Bool.and_eq_true] at h
 have:=h.1
 simp at this
 omega
def LightT (n m:Nat) (q:List T):Prop:=q.length<=n/\∀ t∈q,wT t<=m
theorem LightT.le {n m:Nat} {q:List T} (h:LightT n m q):q.length+wL q<=n+n * m:=by
 have:∀ q:List T,(∀ c∈q,wT c<=m)->wL q<=q.length * m:=by
  intro q
  induction q with
  | nil=>intro _; simp [wL]
  | cons c q ih=>
   intro h
   have h1:=h c (List.mem_cons_self ..)
   have h2:=ih fun d hd=>h d (List.mem_cons_of_mem _ hd)
   simp only [wL,List.length_cons,Nat.succ_mul]
   omega
 have h1:=this q h.2
 have h2:q.length * m<=n * m:=Nat.mul_le_mul_right _ h.1
 have:=h.1
 omega
section
variable {w0 w:World} {X:List Nat} {L A:List Item} {S:ad}
theorem Ko {v:Value} {css:List (List Value)} {q:List T} (hI:Inv w0 X (aC v ab 4 css::A) S w) (hR:Rows 4 (RdT S) css q) :
  ∃ S',Ext w0.heap.size X S S'/\Inv w0 X A S' w/\RdSl S' 4 (RdT S') v q:=by
 have hI:Inv w0 X (A++[aC v ab 4 css]) S w:=hI.last 0 rfl
 obtain ⟨S',hE,hrd,hI⟩:=Inv.lendExt hI
 exact ⟨S',hE,hI,RowRd.rows (hR.monoR fun _ _ h=>RdT.mono hE.1 h) hrd⟩
end
section
variable {br:Nat} {sl:Value} {ys:List Nat} {S:ad}
attribute [local irreducible] Run CondV ai az
theorem uu {s:ByteArray} (h:okQ s=true):Tri Tryz.prog yL [.string s] [] S fun v I' S'=>I'=[]/\∃ u q,v=.tuple #[u,.bool true]/\RdSl S' 4 (RdT S') u q/\LightT 6 300 q:=by
 intro w hI
 obtain ⟨q,hq,hqv,hqw,hs⟩:=Lr h
 have hql:=Ip hqv
 have hbs:(bs s).length=s.size:=(jR (bs s)).symm
 refine mF.2 ?_
 dsimp only[mF,aD]
 refine gf aF ?_
 refine jg (by omega) ?_
 refine aw (fun hb=>by cases hb) (fun _=>?_)
 refine Run.call0E tf tp hI (qg (i:=0) hq (Nat.le_trans (Nat.le_of_eq hbs) (by omega)) (Nat.zero_le _)) fun v I' S1 w'=>?_
 rintro ⟨rfl,u,rfl,hu⟩ hE1 hI
 have hI:Inv w [] [] S1 w':=hI
 refine al (v:=u) rfl ?_
 refine al (v:=.int .i64 (s.size:Int)) rfl ?_
 refine ⟨fun t w'=>t=.bool false/\Inv w [] [] S1 w',?_,?_⟩
 ·refine gf aF ?_
  refine fP ?_
  rw [decide_eq_true rfl]
  refine rpG ?_
  refine Run.callPure wX xz hI (rj hu (by omega)) fun w' hI=>?_
  rw [hqv]
  refine bK ?_
  refine rpG ?_
  exact ⟨rfl,hI⟩
 intro t25 _ _ _ _ _ _ _ _ w'
 rintro ⟨rfl,hI⟩
 refine aw (fun hb=>by cases hb) (fun _=>?_)
 refine eJ hI bu fun v0 w' hI=>?_
 refine ⟨fun a b w'=>∃ (j:Nat) (S2:ad) (css:List (List Value)),a=.int .i64 (j:Int)/\j<=q.length/\Ext w.heap.size [] S S2/\Sle S1 S2/\Rows 4 (RdT S2) css (q.take j)/\Inv w [] [aC b ab 4 css] S2 w',
  fun a _ _=>q.length - (intOf a).toNat,⟨0,S1,[],rfl,Nat.zero_le _,hE1,Sle.refl _,Rows.nil _ _,hI⟩,?_⟩
 intro t7 _ _ t6 _ _ _ _ _ _ _ _ _ _ _ _ w'
 rintro ⟨j,S2,css,rfl,hj,hE2,hle,hR,hI⟩
 have hu:=hu.monoT hle
 have hcl:=hR.hc
 refine aG hu ah ?_
 refine bI ?_
 refine aI (fun hji=>?_) (fun hji=>?_)
 ·have hj':j<q.length:=by omega
  have hm:=iv (List.getElem_mem hj')
  have htk:(q.take j).length=j:=by rw [List.length_take]; omega
  refine ci hI hu ah ac hj' (fun _ _=>RdT.length) fun cs hcs=>?_
  refine Run.call0E dV dZ hI (eY _ S2 cs hcs (by omega)) fun v' I' S3 w'=>?_
  rintro ⟨rfl,ds,M,rfl,rfl,hT⟩ hE3 hI
  obtain ⟨S3,hI,hE3,hins⟩:=hI.pubExt
  have hr3:=hT.rd hins
  refine cR (css:=css) hI 0 ds bu (by omega) (by omega) rfl hr3.length hr3.one (by omega) (by omega) fun v' w' hI=>?_
  refine bq (by omega) ?_
  exact ⟨⟨j+1,S3,_,rfl,hj',hE2.trans hE3,hle.trans hE3.1,by rw [List.take_succ_eq_append_getElem hj']; exact (hR.monoR fun _ _ h=>RdT.mono hE3.1 h).snoc hr3 hr3.length,hI⟩,by simp [intOf]; omega⟩
 ·have:j=q.length:=by omega
  subst this
  rw [List.take_length] at hR
  obtain ⟨S3,hE3,hI,hr⟩:=Ko hI hR
  exact ⟨_,[],S3,rfl,hI,hE2.trans hE3,rfl,_,q,rfl,hr,hql,fun t ht=>by have:=iv ht; omega⟩
abbrev Ne (br:Nat) (sl:Value) (p k:Nat):Value->List Item->ad->Prop:=fun v I' S'=>∃ p',p'<=p+k/\I'=[rdI br sl p']/\∃ u g ps q,v=.tuple #[u,g]/\RdSl S' 5 (RdC S') u ps/\Light 8 200 ps/\0<ps.length/\RdSl S' 4 (RdT S') g q/\LightT 6 300 q
end
end
section
open Go Go.RowKit
section
variable {br:Nat} {sl:Value} {ys:List Nat} {S:ad}
attribute [local irreducible] Run CondV ai az
end
end
section
open Go Go.RowKit
mutual
def pvT:PF->List Int->List Int
 | .mk g _ ks,l=>pvL ks (EF g l)
def pvL:List PF->List Int->List Int
 | [],l=>l
 | p::ps,l=>pvL ps (pvT p l)
end
mutual
def pcT:PF->Int
 | .mk g _ ks=>di g+pcL ks
def pcL:List PF->Int
 | []=>0
 | p::ps=>pcT p+pcL ps
end
section
attribute [local irreducible] Run CondV ai az
end
end
section
open Go Go.RowKit
inductive BKd where
 | one
 | many (n:Nat)
inductive BldR (st:ag):BKd->List Sp->Option (List PF × List Sp)->Prop
 | big {x:Sp} {l:List Sp} {u:T}:Res st (.one x.goal u)->bw u=false->BldR st .one (x::l) none
 | bad {x:Sp} {l:List Sp} {u:T}:Res st (.one x.goal u)->bw u=true->BldR st (.many x.body.toNat) l none->BldR st .one (x::l) none
 | node {x:Sp} {l l1:List Sp} {u:T} {ks:List PF}:Res st (.one x.goal u)->bw u=true->BldR st (.many x.body.toNat) l (some (ks,l1))->BldR st .one (x::l) (some ([.mk u x.clause ks],l1))
 | nil {l:List Sp}:BldR st (.many 0) l (some ([],l))
 | stop {n:Nat} {l:List Sp}:BldR st .one l none->BldR st (.many (n+1)) l none
 | next {n:Nat} {l l1:List Sp} {k:PF}:BldR st .one l (some ([k],l1))->BldR st (.many n) l1 none->BldR st (.many (n+1)) l none
 | cons {n:Nat} {l l1 l2:List Sp} {k:PF} {ks:List PF}:BldR st .one l (some ([k],l1))->BldR st (.many n) l1 (some (ks,l2))->BldR st (.many (n+1)) l (some (k::ks,l2))
theorem BldR.suf {st:ag} {j:BKd} {l:List Sp} {o:Option (List PF × List Sp)} (h:BldR st j l o):∀ ks l2,o=some (ks,l2)->∃ a,l=a++l2:=by
 induction h with
 | big=>intro ks l2 h; cases h
 | bad=>intro ks l2 h; cases h
 | stop=>intro ks l2 h; cases h
 | next=>intro ks l2 h; cases h
 | nil=>
  intro ks l2 h
  simp only [Option.some.injEq,Prod.mk.injEq] at h
  obtain ⟨rfl,rfl⟩:=h
  exact ⟨[],rfl⟩
 | @node x _ _ _ _ _ _ _ ih=>
  intro ks l2 h
  simp only [Option.some.injEq,Prod.mk.injEq] at h
  obtain ⟨rfl,rfl⟩:=h
  obtain ⟨a,rfl⟩:=ih _ _ rfl
  exact ⟨x::a,rfl⟩
 | cons _ _ ih1 ih2=>
  intro ks l2 h
  simp only [Option.some.injEq,Prod.mk.injEq] at h
  obtain ⟨rfl,rfl⟩:=h
  obtain ⟨a,rfl⟩:=ih1 _ _ rfl
  obtain ⟨b,rfl⟩:=ih2 _ _ rfl
  exact ⟨a++b,by rw [List.append_assoc]⟩
def nJ:Nat->List Sp->Prop
 | 0,_=>True
 | _+1,[]=>False
 | k+1,x::l=>nJ (k+x.body.toNat) l
theorem JK:∀ (b a:List Sp) (k:Nat),openP (a++b)->lc (a++b)=0->lc a=k->(∀ x∈b,0<=x.body)->nJ k b
 | [],a,k,_,h0,hk,_=>by
  rw [List.append_nil] at h0
  have:k=0:=by omega
  subst this
  trivial
 | x::b,a,k,ho,h0,hk,hb=>by
  have h1:=ho a (x::b) rfl (by simp)
  obtain ⟨m,rfl⟩:∃ m:Nat,k=m+1:=⟨k - 1,by omega⟩
  have hx:=hb x (List.mem_cons_self ..)
  rw [nJ]
  refine JK b (a++[x]) _ ?_ ?_ ?_ fun y hy=>hb y (List.mem_cons_of_mem _ hy)
  ·rw [List.append_assoc]; exact ho
  ·rw [List.append_assoc]; exact h0
  ·rw [ue]; omega
theorem MZ {N:Nat} {st:ag} (hg:Good N st):∀ (L:Nat) (l:List Sp),l.length<=L->okLp N l->
  (∀ m,nJ (m+1) l->∃ o,BldR st .one l o/\∀ ks l2,o=some (ks,l2)->∃ k,ks=[k]/\nJ m l2)/\
  (∀ n m,nJ (m+n) l->∃ o,BldR st (.many n) l o/\∀ ks l2,o=some (ks,l2)->ks.length=n/\nJ m l2):=by
 intro L
 induction L with
 | zero=>
  intro l hl _
  have:=List.eq_nil_of_length_eq_zero (Nat.le_zero.1 hl)
  subst this
  refine ⟨fun m h=>h.elim,fun n m h=>?_⟩
  cases n with
  | zero=>
   refine ⟨_,.nil,fun ks l2 e=>?_⟩
   simp only [Option.some.injEq,Prod.mk.injEq] at e
   obtain ⟨rfl,rfl⟩:=e
   exact ⟨rfl,h⟩
  | succ n=>exact h.elim
 | succ L ih=>
  intro l hl hok
  have hone:∀ (l:List Sp),l.length<=L+1->okLp N l->∀ m,nJ (m+1) l->∃ o,BldR st .one l o/\∀ ks l2,o=some (ks,l2)->∃ k,ks=[k]/\nJ m l2:=by
   intro l hl hok m hm
   cases l with
   | nil=>exact hm.elim
   | cons x l=>
    obtain ⟨⟨ho,_⟩,_⟩:=hok x (List.mem_cons_self ..)
    obtain ⟨u,hu⟩:=DF hg x.goal ho
    cases hsm:bw u with
    | false=>exact ⟨_,.big hu hsm,fun _ _ e=>by cases e⟩
    | true=>
     rw [nJ] at hm
     obtain ⟨o,h1,h2⟩:=(ih l (by simpa using hl) fun y hy=>hok y (List.mem_cons_of_mem _ hy)).2 x.body.toNat m hm
     match o,h1,h2 with
     | none,h1,_=>exact ⟨_,.bad hu hsm h1,fun _ _ e=>by cases e⟩
     | some (ks,l1),h1,h2=>
      refine ⟨_,.node hu hsm h1,fun ks' l2 e=>?_⟩
      simp only [Option.some.injEq,Prod.mk.injEq] at e
      obtain ⟨rfl,rfl⟩:=e
      exact ⟨_,rfl,(h2 _ _ rfl).2⟩
  refine ⟨hone l hl hok,?_⟩
  intro n
  induction n generalizing l with
  | zero=>
   intro m hm
   refine ⟨_,.nil,fun ks l2 e=>?_⟩
   simp only [Option.some.injEq,Prod.mk.injEq] at e
   obtain ⟨rfl,rfl⟩:=e
   exact ⟨rfl,hm⟩
  | succ n ihn=>
   intro m hm
   obtain ⟨o,h1,h2⟩:=hone l hl hok (m+n) hm
   match o,h1,h2 with
   | none,h1,_=>exact ⟨_,.stop h1,fun _ _ e=>by cases e⟩
   | some (ks,l1),h1,h2=>
    obtain ⟨k,rfl,hk⟩:=h2 _ _ rfl
    obtain ⟨a,rfl⟩:=h1.suf _ _ rfl
    have hl1:l1.length<=L+1:=by rw [List.length_append] at hl; omega
    obtain ⟨o,h3,h4⟩:=ihn l1 hl1 (fun y hy=>hok y (List.mem_append_right _ hy)) m hk
    match o,h3,h4 with
    | none,h3,_=>exact ⟨_,.next h1 h3,fun _ _ e=>by cases e⟩
    | some (ks,l2),h3,h4=>
     refine ⟨_,.cons h1 h3,fun ks' l2' e=>?_⟩
     simp only [Option.some.injEq,Prod.mk.injEq] at e
     obtain ⟨rfl,rfl⟩:=e
     exact ⟨by rw [List.length_cons,(h4 _ _ rfl).1],(h4 _ _ rfl).2⟩
theorem Pk {n k:Nat} {s:Se} (hs:oG n s) (hp:okP s) (hg:s.st.goals=[]) (hx:okXk k s):∃ o,BldR s.st.binds .one s.steps o/\∀ ks l2,o=some (ks,l2)->∃ x,ks=[x]:=by
 have hn:nJ 1 s.steps:=by
  refine JK s.steps [] 1 hp.openP ?_ rfl fun x hx'=>(hx.steps x hx').2.1
  have:=hp.goals
  rw [hg] at this
  simpa using this.symm
 obtain ⟨o,h1,h2⟩:=(MZ hs.st.good _ s.steps (Nat.le_refl _) hx.steps).1 0 hn
 exact ⟨o,h1,fun ks l2 e=>(h2 ks l2 e).imp fun _ h=>h.1⟩
mutual
def pwT:PF->Prop
 | .mk g _ ks=>wT g<=840/\pwL ks
def pwL:List PF->Prop
 | []=>True
 | p::ps=>pwT p/\pwL ps
end
theorem BldR.size {N:Nat} {st:ag} (hg:Good N st) {j:BKd} {l:List Sp} {o:Option (List PF × List Sp)} (h:BldR st j l o):okLp N l->∀ ks l2,o=some (ks,l2)->pcL ks+120 * (l2.length:Int)<=120 * (l.length:Int)/\pwL ks:=by
 induction h with
 | big=>intro _ ks l2 h; cases h
 | bad=>intro _ ks l2 h; cases h
 | stop=>intro _ ks l2 h; cases h
 | next=>intro _ ks l2 h; cases h
 | nil=>
  intro _ ks l2 h
  simp only [Option.some.injEq,Prod.mk.injEq] at h
  obtain ⟨rfl,rfl⟩:=h
  exact ⟨by rw [pcL]; omega,trivial⟩
 | @node x l _ u _ hu hsm _ ih=>
  intro ho ks l2 h
  simp only [Option.some.injEq,Prod.mk.injEq] at h
  obtain ⟨rfl,rfl⟩:=h
  obtain ⟨h1,h2⟩:=ih (fun y hy=>ho y (List.mem_cons_of_mem _ hy)) _ _ rfl
  have hou:okU N u:=gu hg hu (ho x (List.mem_cons_self ..)).1.1
  have hw:=er hsm hou
  rw [bw,Bool.and_eq_true] at hsm
  have hc:=of_decide_eq_true hsm.1
  refine ⟨?_,?_⟩
  ·rw [pcL,pcL,pcT,List.length_cons]; omega
  ·rw [pwL,pwT,pwL]; exact ⟨⟨hw,h2⟩,trivial⟩
 | @cons _ l l1 l2 k ks' h1 _ ih1 ih2=>
  intro ho ks l3 h
  simp only [Option.some.injEq,Prod.mk.injEq] at h
  obtain ⟨rfl,rfl⟩:=h
  obtain ⟨a,e⟩:=h1.suf _ _ rfl
  obtain ⟨q1,q2⟩:=ih1 ho _ _ rfl
  obtain ⟨q3,q4⟩:=ih2 (fun y hy=>ho y (by rw [e]; exact List.mem_append_right _ hy)) _ _ rfl
  rw [pcL,pcL] at q1
  rw [pwL] at q2
  refine ⟨?_,?_⟩
  ·rw [pcL]; omega
  ·rw [pwL]; exact ⟨q2.1,q4⟩
end
section
open Go Go.RowKit
section
attribute [local irreducible] Run CondV ai az
end
end
section
open Go Go.RowKit
def RdSp (S:ad) (cs:List Value) (x:Sp):Prop:=∃ hd,cs=hd++[.int .i64 x.clause,.int .i64 x.body]/\RdT S hd x.goal
theorem RdSp.length {S:ad} {cs:List Value} {x:Sp} (h:RdSp S cs x):cs.length=6:=by
 obtain ⟨hd,rfl,h⟩:=h; simp [h.length]
theorem RdSp.one {S:ad} {cs:List Value} {x:Sp} (h:RdSp S cs x):∀ u∈cs,u.oneCell'=true:=by
 obtain ⟨hd,rfl,h⟩:=h
 intro u hu
 rcases List.mem_append.1 hu with hu|hu
 ·exact h.one u hu
 ·simp only [List.mem_cons,List.not_mem_nil,or_false] at hu
  rcases hu with rfl|rfl <;> rfl
theorem RdSp.mono {S S':ad} {cs:List Value} {x:Sp} (hs:Sle S S') (h:RdSp S cs x):RdSp S' cs x:=by
 obtain ⟨hd,rfl,h⟩:=h; exact ⟨hd,rfl,h.mono hs⟩
theorem RdSl.monoSp {S S':ad} {v:Value} {xs:List Sp} (hs:Sle S S') (h:RdSl S 6 (RdSp S) v xs):RdSl S' 6 (RdSp S') v xs:=h.mono hs fun _ _=>RdSp.mono hs
def RdVS (S:ad) (cs:List Value) (l:List Sp):Prop:=∃ v,cs=[v]/\RdSl S 6 (RdSp S) v l
theorem RdVS.length {S:ad} {cs:List Value} {l:List Sp} (h:RdVS S cs l):cs.length=1:=by
 obtain ⟨v,rfl,h⟩:=h; rfl
theorem RdVS.one {S:ad} {cs:List Value} {l:List Sp} (h:RdVS S cs l):∀ u∈cs,u.oneCell'=true:=by
 obtain ⟨v,rfl,h⟩:=h
 intro u hu
 rw [List.mem_singleton] at hu
 subst hu
 exact h.sl
theorem RdVS.mono {S S':ad} {cs:List Value} {l:List Sp} (hs:Sle S S') (h:RdVS S cs l):RdVS S' cs l:=by
 obtain ⟨v,rfl,h⟩:=h; exact ⟨v,rfl,h.monoSp hs⟩
theorem RdSl.monoVS {S S':ad} {v:Value} {xs:List (List Sp)} (hs:Sle S S') (h:RdSl S 1 (RdVS S) v xs):RdSl S' 1 (RdVS S') v xs:=h.mono hs fun _ _=>RdVS.mono hs
def RdSe (S:ad) (cs:List Value) (s:Se):Prop:=∃ g b c t v,cs=[g,b,c,t,v]/\RdSl S 5 (RdG S) g s.st.goals/\RdSl S 4 (RdO S) b s.st.binds/\RdSl S 7 (RdCh S) c s.st.chs/\RdSl S 6 (RdSp S) t s.steps/\RdSl S 1 (RdVS S) v s.saved
theorem RdSe.length {S:ad} {cs:List Value} {s:Se} (h:RdSe S cs s):cs.length=5:=by
 obtain ⟨g,b,c,t,v,rfl,_⟩:=h; rfl
theorem RdSe.one {S:ad} {cs:List Value} {s:Se} (h:RdSe S cs s):∀ u∈cs,u.oneCell'=true:=by
 obtain ⟨g,b,c,t,v,rfl,h1,h2,h3,h4,h5⟩:=h
 intro u hu
 simp only [List.mem_cons,List.not_mem_nil,or_false] at hu
 rcases hu with rfl|rfl|rfl|rfl|rfl
 ·exact h1.sl
 ·exact h2.sl
 ·exact h3.sl
 ·exact h4.sl
 ·exact h5.sl
theorem RdSe.mono {S S':ad} {cs:List Value} {s:Se} (hs:Sle S S') (h:RdSe S cs s):RdSe S' cs s:=by
 obtain ⟨g,b,c,t,v,rfl,h1,h2,h3,h4,h5⟩:=h
 exact ⟨g,b,c,t,v,rfl,h1.monoG hs,h2.monoO hs,h3.monoCh hs,h4.monoSp hs,h5.monoVS hs⟩
def apC {α:Type} (w0:World) (X:List Nat) (A:List Item) (T:TypeId) (k:Nat) (R:ad->List Value->α->Prop) (xs:List α) (y:α) (S:ad) (v0 v1 v2:Value) (w:World):Nat->Prop
 | 0=>Inv w0 X A S w
 | 1=>Inv w0 X (A++[aC v0 T k []]) S w
 | 2=>∃ css,Rows k (R S) css xs/\Inv w0 X (A++[aC v1 T k css]) S w
 | _=>RdSl S k (R S) v2 (xs++[y])/\Inv w0 X A S w
section
variable {α:Type} {w0 w:World} {X:List Nat} {A:List Item} {T:TypeId} {k n:Nat} {R:ad->List Value->α->Prop} {xs:List α} {y:α} {S:ad} {v0 v1 v2:Value}
theorem apC.ex (hR:∀ S S' cs x,Sle S S'->R S cs x->R S' cs x) (h:apC w0 X A T k R xs y S v0 v1 v2 w n) :
  ∃ B,Inv w0 X (A++B) S w/\∀ A' S1 w1,Sle S S1->Inv w0 X (A'++B) S1 w1->apC w0 X A' T k R xs y S1 v0 v1 v2 w1 n:=by
 match n,h with
 | 0,h=>exact ⟨[],by rw [List.append_nil]; exact h,fun A' S1 w1 _ hI=>by rw [List.append_nil] at hI; exact hI⟩
 | 1,h=>exact ⟨_,h,fun A' S1 w1 _ hI=>hI⟩
 | 2,⟨css,h1,h2⟩=>exact ⟨_,h2,fun A' S1 w1 hs hI=>⟨css,h1.monoR fun _ _ h=>hR _ _ _ _ hs h,hI⟩⟩
 | n+3,⟨h1,h2⟩=>exact ⟨[],by rw [List.append_nil]; exact h2,fun A' S1 w1 hs hI=>⟨h1.mono hs fun _ _ h=>hR _ _ _ _ hs h,by rw [List.append_nil] at hI; exact hI⟩⟩
theorem apC.inv (h:apC w0 X A T k R xs y S v0 v1 v2 w n):∃ B,Inv w0 X (A++B) S w:=by
 match n,h with
 | 0,h=>exact ⟨[],by rw [List.append_nil]; exact h⟩
 | 1,h=>exact ⟨_,h⟩
 | 2,⟨css,h1,h2⟩=>exact ⟨_,h2⟩
 | n+3,⟨h1,h2⟩=>exact ⟨[],by rw [List.append_nil]; exact h2⟩
end
section
variable {α:Type} {P:Program} {w0 w:World} {X:List Nat} {A:List Item} {k:Nat} {R:ad->List Value->α->Prop} {xs:List α} {y:α} {S:ad} {v0 v1 v2:Value} {K:Value->World->Prop}
attribute [local irreducible] Run
end
section
variable {w:World} {K:Value->World->Prop}
attribute [local irreducible] Run
end
end
section
open Go Go.RowKit
def nwP (w0:World) (X:List Nat) (A:List Item) (T:TypeId) (z:Array Value) (Q:ad->Array Value->Prop) (da ds:Bool) (x:Value) (S:ad) (w:World):Prop:=
 ∃ b q,(da=true->x=.pointer (some ⟨b,0,none⟩))/\(ds=true->da=true)/\(ds=false->q=z)/\(ds=true->Q S q)/\Inv w0 X (A++cond da [.blk b (.cells q T)] []) S w
section
variable {w0 w:World} {X:List Nat} {A:List Item} {T:TypeId} {z:Array Value} {Q:ad->Array Value->Prop} {da ds:Bool} {x:Value} {S:ad}
theorem nwP.mk (h:Inv w0 X A S w) (x:Value):nwP w0 X A T z Q false false x S w:=⟨0,z,fun h=>(by cases h),fun h=>(by cases h),fun _=>rfl,fun h=>(by cases h),by rw [cond_false,List.append_nil]; exact h⟩
theorem nwP.ex (hQ:∀ S S' q,Sle S S'->Q S q->Q S' q) (h:nwP w0 X A T z Q da ds x S w):∃ B,Inv w0 X (A++B) S w/\∀ S' w',Sle S S'->Inv w0 X (A++B) S' w'->nwP w0 X A T z Q da ds x S' w':=by
 obtain ⟨b,q,h1,h2,h3,h4,h5⟩:=h
 exact ⟨_,h5,fun S' w' hs hI=>⟨b,q,h1,h2,h3,fun h=>hQ _ _ _ hs (h4 h),hI⟩⟩
theorem nwP.inv (h:nwP w0 X A T z Q da ds x S w):∃ B,Inv w0 X (A++B) S w:=by
 obtain ⟨b,q,h1,h2,h3,h4,h5⟩:=h
 exact ⟨_,h5⟩
theorem nwP.fin (h:nwP w0 X A T z Q true true x S w):∃ b q,x=.pointer (some ⟨b,0,none⟩)/\Q S q/\Inv w0 X (A++[.blk b (.cells q T)]) S w:=by
 obtain ⟨b,q,h1,h2,h3,h4,h5⟩:=h
 exact ⟨b,q,h1 rfl,h4 rfl,h5⟩
end
section
variable {P:Program} {w0 w:World} {X:List Nat} {A:List Item} {T:TypeId} {z:Array Value} {Q:ad->Array Value->Prop} {da ds:Bool} {x:Value} {S:ad} {K:Value->World->Prop}
attribute [local irreducible] Run
theorem nwP.alloc {ty:TypeId} {zv:Value} (h:nwP w0 X A T z Q da ds x S w) (hd:da=false) (hz:fo P T=some zv) (hzc:zv.cells=z) (hk:∀ v w',nwP w0 X A T z Q true ds v S w'->K v w'):Run P (sOp (.alloc T) ty) w K:=by
 obtain ⟨b,q,h1,h2,h3,h4,h5⟩:=h
 have hds:ds=false:=Bool.eq_false_iff.2 fun e=>by rw [h2 e] at hd; cases hd
 rw [hd,cond_false,List.append_nil] at h5
 refine aM h5 hz fun b w' hI=>hk _ w' ⟨b,z,fun _=>rfl,fun _=>rfl,fun _=>rfl,fun e=>(by rw [hds] at e; cases e),?_⟩
 rw [cond_true,<- hzc]
 exact hI
theorem nwP.store {ty:TypeId} {n:Nat} {cs:Array Value} (h:nwP w0 X A T z Q da ds x S w) (hd:da=true) (hs:ds=false) (hT:nE P T=some n) (hn:cs.size=n) (hz:z.size=n) (h1:∀ u∈cs.toList,u.oneCell'=true) (hQ:Q S cs)
  (hk:∀ w',nwP w0 X A T z Q da true x S w'->K undef w'):Run P (sOp (.store T (.const x) (.const (.agg cs))) ty) w K:=by
 obtain ⟨b,q,g1,g2,g3,g4,g5⟩:=h
 rw [hd,cond_true,g3 hs] at g5
 rw [g1 hd]
 refine av (E:=T) g5 A.length (by simp) hT hn hz h1 fun w' hI=>?_
 have e:(A++[Item.blk b (.cells z T)]).set A.length (.blk b (.cells cs T))=A++[.blk b (.cells cs T)]:=by simp
 rw [e] at hI
 exact hk w' ⟨b,cs,g1,fun _=>hd,fun e=>(by cases e),fun _=>hQ,by rw [hd]; exact hI⟩
end
def apP {α:Type} (w0:World) (X:List Nat) (A:Value->List Item) (z:Value) (T:TypeId) (k:Nat) (R:ad->List Value->α->Prop) (xs:List α) (y:α) (S0:ad) (d5 d8:Bool) (v0 v1 v5 v2:Value) (w:World) (n:Nat):Prop:=
 ∃ S1 cv,Ext w0.heap.size X S0 S1/\(d5=true->RdSl S1 k (R S1) v5 [y])/\(d8=false->cv=z)/\(d8=true->RdSl S1 k (R S1) cv (xs++[y]))/\apC w0 X (A cv) T k R xs y S1 v0 v1 v2 w n
section
variable {α:Type} {P:Program} {w0 w:World} {X:List Nat} {A:Value->List Item} {z:Value} {e:TypeId} {k:Nat} {R:ad->List Value->α->Prop} {xs:List α} {y:α} {S0:ad} {d5 d8:Bool} {v0 v1 v5 v2:Value} {n:Nat} {K:Value->World->Prop}
attribute [local irreducible] Run
theorem apP.mk {S:ad} (h:Inv w0 X (A z) S w) (v0 v1 v5 v2:Value):apP w0 X A z e k R xs y S false false v0 v1 v5 v2 w 0:=⟨S,z,Ext.refl _ _ _,fun h=>(by cases h),fun _=>rfl,fun h=>(by cases h),h⟩
theorem apP.inv (h:apP w0 X A z e k R xs y S0 d5 d8 v0 v1 v5 v2 w n):∃ S1 cv B,Ext w0.heap.size X S0 S1/\Inv w0 X (A cv++B) S1 w:=by
 obtain ⟨S1,cv,h1,h2,h3,h4,h5⟩:=h
 obtain ⟨B,hI⟩:=h5.inv
 exact ⟨S1,cv,B,h1,hI⟩
theorem apP.inv0 (h:apP w0 X A z e k R xs y S0 d5 d8 v0 v1 v5 v2 w n) (hd:d8=false):∃ S1 B,Ext w0.heap.size X S0 S1/\Inv w0 X (A z++B) S1 w:=by
 obtain ⟨S1,cv,h1,h2,h3,h4,h5⟩:=h
 obtain ⟨B,hI⟩:=h5.inv
 rw [h3 hd] at hI
 exact ⟨S1,B,h1,hI⟩
theorem apP.fin (h:apP w0 X A z e k R xs y S0 d5 true v0 v1 v5 v2 w 3):∃ S1 cv,Ext w0.heap.size X S0 S1/\RdSl S1 k (R S1) cv (xs++[y])/\Inv w0 X (A cv) S1 w:=by
 obtain ⟨S1,cv,h1,h2,h3,h4,h5⟩:=h
 exact ⟨S1,cv,h1,h4 rfl,h5.2⟩
end
end
section
open Go Go.RowKit
theorem NM {c d:List Value} {n i k:Nat} (h:c.take n=d.take n) (hi:i+k<=n):(c.drop i).take k=(d.drop i).take k:=by
 have e:∀ l:List Value,(l.drop i).take k=((l.take n).drop i).take k:=fun l=>by
  rw [List.drop_take,List.take_take,Nat.min_eq_left (by omega)]
 rw [e c,e d,h]
theorem KnU.grown {S:ad} {c cur:Array Value} {st:ag} {m:Nat} {z:Array Value} (hz:z=#[.int .i64 0,.int .i64 0,.string ⟨#[]⟩,.slice none 0 0]) (h:KnU S cur st) (hs:(st.length+m) * 4<=c.size)
  (ht:c.toList.take ((st.length+m) * 4)=cur.toList.take (st.length * 4)++(Builtin.zeroCells z m).toList):KnU S c (st++List.replicate m none):=by
 have hZ:=KnU.zero z hz S m
 have hz4:z.size=4:=by rw [hz]; rfl
 have hZe:Builtin.zeroCells z m=(Array.range (m * 4)).map (z[· % z.size]!):=by rw [Builtin.zeroCells,hz4]
 have h1:=h.1
 have hlen:(cur.toList.take (st.length * 4)).length=st.length * 4:=by rw [List.length_take]; have:cur.toList.length=cur.size:=rfl; omega
 refine KnU.of (by rw [List.length_append,List.length_replicate]; exact hs) fun i hi=>?_
 rw [List.length_append,List.length_replicate] at hi
 by_cases hl:i<st.length
 ·rw [List.getElem_append_left hl]
  have e:aJ c (i * 4) 4=aJ cur (i * 4) 4:=by
   rw [aJ,aJ]
   refine NM (n:=st.length * 4) ?_ (by omega)
   have:=congrArg (List.take (st.length * 4)) ht
   rw [List.take_take,Nat.min_eq_left (by omega),List.take_append_of_le_length (by omega),List.take_take,Nat.min_self] at this
   exact this
  rw [e]
  exact h.rdO i hl
 ·rw [List.getElem_append_right (by omega),List.getElem_replicate]
  have hj:i - st.length<(List.replicate m (none:Option T)).length:=by rw [List.length_replicate]; omega
  have hr:=hZ.rdO (i - st.length) hj
  rw [List.getElem_replicate] at hr
  have e:aJ c (i * 4) 4=aJ ((Array.range (m * 4)).map (z[· % z.size]!)) ((i - st.length) * 4) 4:=by
   rw [aJ,aJ,<- hZe]
   have e1:(c.toList.drop (i * 4)).take 4=((c.toList.take ((st.length+m) * 4)).drop (i * 4)).take 4:=by
    rw [List.drop_take,List.take_take,Nat.min_eq_left (by omega)]
   rw [e1,ht,List.drop_append,hlen,List.drop_eq_nil_of_le (by rw [hlen]; omega),List.nil_append]
   rw [show i * 4 - st.length * 4=(i - st.length) * 4 by omega]
  rw [e]
  exact hr
section
variable {P:Program} {w w0:World} {X:List Nat} {A:List Item} {S S1:ad} {K:Value->World->Prop}
attribute [local irreducible] Run CondV ai az
end
end
section
open Go Go.RowKit
def tmC (w0:World) (X:List Nat) (A:List Item) (S:ad) (N m:Nat) (b st:ag) (KX xX wV Ht KZ:Value) (w':World):Nat->Prop
 | 0=>Inv w0 X A S w'
 | 1=>Inv w0 X (A++[aC KX ab 4 []]) S w'
 | 2=>∃ css,Rows 4 (RdO S) css b/\Inv w0 X (A++[aC xX ab 4 css]) S w'
 | 3=>wV=.int .i64 (m:Int)/\∃ css,Rows 4 (RdO S) css b/\Inv w0 X (A++[aC xX ab 4 css]) S w'
 | 4=>∃ g cap cur,Ht=kvU g N cap/\N<=cap/\cap<=maxLen/\KnU S cur st/\Inv w0 X (A++[.blk g (.cells cur ab)]) S w'
 | _=>∃ g cap cur,KZ=kvU g N cap/\N<=cap/\cap<=maxLen/\KnU S cur st/\Inv w0 X (A++[.blk g (.cells cur ab)]) S w'
theorem tmC.inv {w0 w':World} {X:List Nat} {A:List Item} {S:ad} {N m:Nat} {b st:ag} {KX xX wV Ht KZ:Value}:∀ {n:Nat},tmC w0 X A S N m b st KX xX wV Ht KZ w' n->∃ R,Inv w0 X (A++R) S w'
 | 0,h=>⟨[],by rw [List.append_nil]; exact h⟩
 | 1,h=>⟨_,h⟩
 | 2,⟨_,_,h⟩=>⟨_,h⟩
 | 3,⟨_,_,_,h⟩=>⟨_,h⟩
 | 4,⟨_,_,_,_,_,_,_,h⟩=>⟨_,h⟩
 | _+5,⟨_,_,_,_,_,_,_,h⟩=>⟨_,h⟩
def unC (w0:World) (X:List Nat) (A:List Item) (S:ad) (g:Nat) (cur:Array Value) (st:ag) (t:T) (r:Bool) (EH uK:Value) (w':World):Nat->Prop
 | 0=>Inv w0 X (A++[.blk g (.cells cur ab)]) S w'
 | 1=>∃ S1 cs,EH=.agg cs.toArray/\Ext w0.heap.size X S S1/\RdT S1 cs t/\Inv w0 X (A++[.blk g (.cells cur ab)]) S1 w'
 | _=>uK=.bool r/\∃ S1 cur',Ext w0.heap.size X S S1/\KnU S1 cur' st/\Inv w0 X (A++[.blk g (.cells cur' ab)]) S1 w'
theorem unC.inv {w0 w':World} {X:List Nat} {A:List Item} {S:ad} {g:Nat} {cur:Array Value} {st:ag} {t:T} {r:Bool} {EH uK:Value}:∀ {n:Nat},unC w0 X A S g cur st t r EH uK w' n->∃ R S1,Inv w0 X (A++R) S1 w'
 | 0,h=>⟨_,_,h⟩
 | 1,⟨_,_,_,_,_,h⟩=>⟨_,_,h⟩
 | _+2,⟨_,_,_,_,_,h⟩=>⟨_,_,h⟩
section
attribute [local irreducible] Run CondV ai az
end
end
section
open Go Go.RowKit
theorem TryL.left {p:List C} {chs:List Ch} {c:Ch} {l:List Int} {o:Option St6} (h:TryL p chs c l o) (l':List Int):TryL p chs ⟨c.goal,c.rest,l',c.binds⟩ l o:=by
 induction h with
 | nil=>exact .nil
 | hit h1 h2=>exact .hit (c:=⟨c.goal,c.rest,l',c.binds⟩) h1 h2
 | miss h1 h2 _ ih=>exact .miss h1 h2 ih
theorem FirstL.inv {p:List C} {chs:List Ch} {c:Ch} {x:Int} {l:List Int} {o:Option (St6 × Int × List Int)} (h:FirstL p chs c (x::l) o) :
  ∃ o1,TryL p chs c [x] o1/\((∃ s,o1=some s/\o=some (s,x,l)) ∨ (o1=none/\FirstL p chs c l o)):=by
 cases h with
 | hit h=>exact ⟨_,h,.inl ⟨_,rfl,rfl⟩⟩
 | miss h1 h2=>exact ⟨_,h1,.inr ⟨rfl,h2⟩⟩
section
variable {P:Program} {w w0:World} {X:List Nat} {L:List Item} {S:ad} {K:Value->World->Prop}
attribute [local irreducible] Run CondV ai az
end
section
attribute [local irreducible] Run CondV ai az
end
end
section
open Go Go.RowKit
def anP {α:Type} (w0:World) (X:List Nat) (A:List Item) (T:TypeId) (k:Nat) (R:ad->List Value->α->Prop) (xs:List α) (y:α) (S0:ad) (Tn:TypeId) (z:Array Value) (Q:ad->Value->Prop)
  (d5 db da ds:Bool) (v0 v1 v5 v2 vb x:Value) (w:World) (n:Nat):Prop:=
 ∃ S1 b q,Ext w0.heap.size X S0 S1/\(d5=true->RdSl S1 k (R S1) v5 [y])/\(db=true->Q S1 vb)/\(da=true->x=.pointer (some ⟨b,0,none⟩))/\(ds=true->da=true)/\(ds=false->q=z)/\(ds=true->Q S1 (.agg q))/\
  apC w0 X (A++cond da [.blk b (.cells q Tn)] []) T k R xs y S1 v0 v1 v2 w n
section
variable {α:Type} {P:Program} {w0 w:World} {X:List Nat} {A:List Item} {e:TypeId} {k:Nat} {R:ad->List Value->α->Prop} {xs:List α} {y:α} {S0:ad} {Tn:TypeId} {z:Array Value} {Q:ad->Value->Prop}
 {d5 db da ds:Bool} {v0 v1 v5 v2 vb x:Value} {n:Nat} {K:Value->World->Prop}
attribute [local irreducible] Run
theorem anP.mk {S:ad} (h:Inv w0 X A S w) (v0 v1 v5 v2 vb x:Value):anP w0 X A e k R xs y S Tn z Q false false false false v0 v1 v5 v2 vb x w 0:=
 ⟨S,0,z,Ext.refl _ _ _,fun h=>(by cases h),fun h=>(by cases h),fun h=>(by cases h),fun h=>(by cases h),fun _=>rfl,fun h=>(by cases h),by rw [cond_false,List.append_nil]; exact h⟩
theorem anP.inv (h:anP w0 X A e k R xs y S0 Tn z Q d5 db da ds v0 v1 v5 v2 vb x w n):∃ S1 B,Ext w0.heap.size X S0 S1/\Inv w0 X (A++B) S1 w:=by
 obtain ⟨S1,b,q,h1,_,_,_,_,_,_,h5⟩:=h
 obtain ⟨B,hI⟩:=h5.inv
 exact ⟨S1,_,h1,by rw [List.append_assoc] at hI; exact hI⟩
theorem anP.fin (h:anP w0 X A e k R xs y S0 Tn z Q d5 db true true v0 v1 v5 v2 vb x w 3):∃ S1 b q,Ext w0.heap.size X S0 S1/\x=.pointer (some ⟨b,0,none⟩)/\Q S1 (.agg q)/\Inv w0 X (A++[.blk b (.cells q Tn)]) S1 w:=by
 obtain ⟨S1,b,q,h1,_,_,h4,_,_,h7,h8⟩:=h
 exact ⟨S1,b,q,h1,h4 rfl,h7 rfl,h8.2⟩
theorem anP.val (h:anP w0 X A e k R xs y S0 Tn z Q d5 db da ds v0 v1 v5 v2 vb x w n) (hd:db=true):∃ S1,Q S1 vb:=by
 obtain ⟨S1,b,q,_,_,h3,_⟩:=h
 exact ⟨S1,h3 hd⟩
theorem anP.alloc {ty:TypeId} {zv:Value} (hR:∀ S S' cs x,Sle S S'->R S cs x->R S' cs x) (h:anP w0 X A e k R xs y S0 Tn z Q d5 db da ds v0 v1 v5 v2 vb x w n) (hd:da=false) (hz:fo P Tn=some zv) (hzc:zv.cells=z)
  (hk:∀ v w',anP w0 X A e k R xs y S0 Tn z Q d5 db true ds v0 v1 v5 v2 vb v w' n->K v w'):Run P (sOp (.alloc Tn) ty) w K:=by
 obtain ⟨S1,b,q,h1,h2,h3,h4,h5,h6,h7,h8⟩:=h
 have hds:ds=false:=Bool.eq_false_iff.2 fun e=>by rw [h5 e] at hd; cases hd
 rw [hd,cond_false,List.append_nil] at h8
 obtain ⟨B,hI,hback⟩:=h8.ex hR
 refine aM hI hz fun b w' hI=>hk _ w' ⟨S1,b,z,h1,h2,h3,fun _=>rfl,fun _=>rfl,fun _=>rfl,fun e=>(by rw [hds] at e; cases e),?_⟩
 rw [cond_true,<- hzc]
 refine hback _ S1 w' (Sle.refl _) (hI.perm ?_)
 rw [List.append_assoc,List.append_assoc]
 exact List.Perm.append_left _ List.perm_append_comm
theorem anP.store {ty:TypeId} {m:Nat} {cs:Array Value} (hR:∀ S S' cs x,Sle S S'->R S cs x->R S' cs x) (h:anP w0 X A e k R xs y S0 Tn z Q d5 db da ds v0 v1 v5 v2 vb x w n) (hd:da=true) (hs:ds=false) (hT:nE P Tn=some m) (hn:cs.size=m) (hz:z.size=m)
  (h1c:∀ u∈cs.toList,u.oneCell'=true) (hdb:db=true) (hvb:vb=.agg cs)
  (hk:∀ w',anP w0 X A e k R xs y S0 Tn z Q d5 db da true v0 v1 v5 v2 vb x w' n->K undef w'):Run P (sOp (.store Tn (.const x) (.const (.agg cs))) ty) w K:=by
 obtain ⟨S1,b,q,h1,h2,h3,h4,h5,h6,h7,h8⟩:=h
 rw [hd,cond_true,h6 hs] at h8
 rw [h4 hd]
 obtain ⟨B,hI,hback⟩:=h8.ex hR
 have hi:(A++[Item.blk b (.cells z Tn)]++B)[A.length]?=some (.blk b (.cells z Tn)):=by simp
 refine av (E:=Tn) hI A.length hi hT hn hz h1c fun w' hI=>?_
 have e2:(A++[Item.blk b (.cells z Tn)]++B).set A.length (.blk b (.cells cs Tn))=A++[.blk b (.cells cs Tn)]++B:=by simp
 rw [e2] at hI
 refine hk w' ⟨S1,b,cs,h1,h2,h3,h4,fun _=>hd,fun e=>(by cases e),fun _=>hvb ▸ h3 hdb,?_⟩
 rw [hd,cond_true]
 exact hback _ S1 w' (Sle.refl _) hI
end
end
section
open Go Go.RowKit
section
attribute [local irreducible] Run CondV ai az
end
end
section
open Go Go.RowKit
theorem BackR.inv {p:List C} {cs:List Ch} {ss:List (List Sp)} {o:Option Se} (h:BackR p cs ss o) (hne:cs≠[]):∃ cs' c ss' t o1,cs=cs'++[c]/\ss=ss'++[t]/\TakeR p ⟨⟨[],[],cs'⟩,t,ss'⟩ c o1/\
  ((∃ s,o1=some s/\o=some s) ∨ (o1=none/\BackR p cs' ss' o)):=by
 cases h with
 | nil=>exact absurd rfl hne
 | hit h=>exact ⟨_,_,_,_,_,rfl,rfl,h,.inl ⟨_,rfl,rfl⟩⟩
 | miss h h2=>exact ⟨_,_,_,_,_,rfl,rfl,h,.inr ⟨rfl,h2⟩⟩
theorem BackR.none {p:List C} {cs:List Ch} {ss:List (List Sp)} {o:Option Se} (h:BackR p cs ss o) (he:cs=[]):o=Option.none:=by
 cases h with
 | nil=>rfl
 | hit h=>simp at he
 | miss h h2=>simp at he
section
attribute [local irreducible] Run CondV ai az
end
end
end Go.Proofs.YtgllldjiaglkcaaGreatDoor
