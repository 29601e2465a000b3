/- impl.Solve. -/
import Derived.Test.YtgllldjiaglkcaaGreatDoorZDr17
import Derived.Test.YtgllldjiaglkcaaGreatDoorZDr15
import Derived.Test.YtgllldjiaglkcaaGreatDoorZDr3
import Derived.Test.YtgllldjiaglkcaaGreatDoorZDr11
import Derived.Test.YtgllldjiaglkcaaGreatDoorZDr2
import Derived.Test.YtgllldjiaglkcaaGreatDoorZDr14
namespace Go.Proofs.YtgllldjiaglkcaaGreatDoor
section
open Go Go.RowKit
mutual
theorem NW (vs:List Int):∀ t:T,wT (qu vs t)<=wT t
 | .mk k n s ks=>by
  rw [qu]
  split
  ·show (0+0+0:Nat)<=_
   omega
  ·have:=Ev vs ks
   rw [wT,wT,lD vs ks]
   omega
theorem Ev (vs:List Int):∀ ts:List T,wL (g9 vs ts)<=wL ts
 | []=>by rw [g9]; exact Nat.le_refl _
 | t::ts=>by
  have h1:=NW vs t
  have h2:=Ev vs ts
  rw [g9,wL,wL]
  omega
end
def Ji (vs:List T):Prop:=vs.length+wL vs<=1048576
theorem ValsI.small {N:Nat} {st:ag} (hg:Good N st) {vars:List Int} (hv:∀ n∈vars,0<=n/\n<N) (hl:vars.length<=1000) {vs:List T} (h:ValsI st vars (some vs)):Ji vs:=by
 obtain ⟨us,hus,ho⟩:=h
 have hul:=Ee hus
 rw [List.length_map] at hul
 split at ho
 ·rename_i hc
  cases ho
  have hw:=yi (N:=N) (us:=us) fun u hu=>by
   obtain ⟨i,hi,rfl⟩:=List.getElem_of_mem hu
   refine ⟨List.all_eq_true.1 hc.1 _ hu,gu hg (Ez hus i (by rw [List.length_map]; omega) hi) ?_⟩
   rw [List.getElem_map]
   exact z5 (hv _ (List.getElem_mem _))
  have:=Ev (dt us []) us
  unfold Ji
  rw [lD]
  omega
 ·cases ho
theorem RunI.small {p:List C} (hp:∀ cl∈p,ie cl) {vars:List Int} (hv:∀ n∈vars,0<=n/\n<26) (hl:vars.length<=1000) {most n:Nat} {s:SI} {out:List (List T)} {r:List (List T) × Int} (h:RunI p vars most n s out r) :
  pQ p.length s->26<=s.st.length->(∀ vs∈out,Ji vs)->∀ vs∈r.1,Ji vs:=by
 induction h with
 | fuel=>exact fun _ _ h=>h
 | stop=>exact fun _ _ h=>h
 | more=>exact fun _ _ h=>h
 | large=>exact fun _ _ h=>h
 | step _ hst _ ih=>
  intro hs h26 ho
  obtain ⟨j1,_,_,_,j5⟩:=hst.ok hp hs _ rfl
  exact ih j1 (by omega) ho
 | last _ _ hval _=>
  intro hs h26 ho vs hvs
  rcases List.mem_append.1 hvs with h|h
  ·exact ho vs h
  ·rw [List.mem_singleton.1 h]
   exact hval.small hs.good (fun n hn=>⟨(hv n hn).1,by have:=(hv n hn).2; omega⟩) hl
 | next _ _ hval hb _ ih=>
  intro hs h26 ho
  obtain ⟨j1,_,_,j4⟩:=hb.ok hp hs.chs _ rfl
  refine ih j1 (by omega) fun vs hvs=>?_
  rcases List.mem_append.1 hvs with h|h
  ·exact ho vs h
  ·rw [List.mem_singleton.1 h]
   exact hval.small hs.good (fun n hn=>⟨(hv n hn).1,by have:=(hv n hn).2; omega⟩) hl
def SolR (p:List C) (q:List T) (most fuel:Nat) (r:List (List T) × Int):Prop:=((co p && cQ q)=true/\RunI p (dt q []) most fuel (fg q) [] r) ∨ ((co p && cQ q)=false/\r=([],9))
theorem gG {p:List C} (h:co p=true):(∀ cl∈p,ie cl)/\(∀ cl∈p,cl.body.length<=1048576)/\p.length<=20:=by
 rw [co,Bool.and_eq_true,decide_eq_true_eq,List.all_eq_true] at h
 exact ⟨fun cl hc=>FQ (h.2 cl hc),fun cl hc=>by have:=(eq (h.2 cl hc)).2.2; omega,h.1⟩
theorem vG {q:List T} (h:cQ q=true):q.length<=6/\(∀ t∈q,cW t=true):=by
 rw [cQ,Bool.and_eq_true,decide_eq_true_eq,List.all_eq_true] at h
 exact ⟨h.1,fun t ht=>kf (h.2 t ht)⟩
theorem yH:∀ {q:List T},(∀ t∈q,cW t=true)->cm q<=120 * (q.length:Int)
 | [],_=>by simp [cm]
 | t::q,h=>by
  have h1:=h t (List.mem_cons_self ..)
  rw [cW,Bool.and_eq_true] at h1
  have h2:di t<=120:=by simpa using h1.2
  have h3:=yH fun x hx=>h x (List.mem_cons_of_mem _ hx)
  rw [cm,List.length_cons]
  omega
theorem zG {q:List T} (h:cQ q=true):(∀ n∈dt q [],0<=n/\n<26)/\(dt q []).length<=1000/\cm q<=1000:=by
 obtain ⟨h1,h2⟩:=vG h
 have h3:=yH h2
 have h4:=tk q []
 rw [List.length_nil] at h4
 exact ⟨vq q [] (DR fun t ht=>DK t (i5 (h2 t ht))) (by simp),by omega,by omega⟩
theorem kR {q:List T} (h:cQ q=true) (m:Nat):pQ m (fg q):=Kx m fun t ht=>by
 have hv:=(vG h).2 t ht
 exact ⟨⟨i5 hv,by have:=pA hv; omega⟩,vi hv⟩
theorem SolR.ex (p:List C) (q:List T) (most fuel:Nat):∃ r,SolR p q most fuel r:=by
 by_cases h:(co p && cQ q)=true
 ·have h':=h
  rw [Bool.and_eq_true] at h'
  obtain ⟨r,hr⟩:=RunI.ex (gG h'.1).1 (zG h'.2).1 most _ fuel (fg q) [] (Nat.le_refl _) (Nat.zero_le _) (kR h'.2 _) (by show 26<=(List.replicate 26 (none:Option T)).length; simp)
  exact ⟨r,.inl ⟨h,hr⟩⟩
 ·exact ⟨_,.inr ⟨by simpa using h,rfl⟩⟩
end
section
open Go Go.RowKit
def cls (p:List C) (l:List Int):List (Option C):=l.map fun i=>p[i.toNat]?
def sameHd (t u:T):Prop:=u.kind=t.kind/\u.name=t.name/\u.kids.length=t.kids.length
structure Alk (p s:List C) (R:T->Prop):Prop where
 for_:∀ t,R t->dI t=false->bB t=false->cls p (fS p t)=cls s (fS s t)
 body:∀ t,R t->∀ i∈fS p t,∀ cl,p[i.toNat]?=some cl->∀ b∈cl.body,R b
 hd:∀ t u,R t->sameHd t u->R u
 three:∀ t,R t->t.kind=3
def Ns (p:List C) (R:T->Prop) (l:List Int):Prop:=∀ i∈l,∀ cl,p[i.toNat]?=some cl->∀ b∈cl.body,R b
structure PM (p s:List C) (R:T->Prop) (c d:CI):Prop where
 goal:d.goal=c.goal
 node:d.node=c.node
 rest:d.rest=c.rest
 left:cls s d.left=cls p c.left
 binds:d.binds=c.binds
 taken:d.taken=c.taken
 rR:∀ g∈c.rest,R g.t
 lR:Ns p R c.left
def simCs (p s:List C) (R:T->Prop) (cs ds:List CI):Prop:=cs.length=ds.length/\∀ i (h:i<cs.length) (h':i<ds.length),PM p s R cs[i] ds[i]
structure LA (p s:List C) (R:T->Prop) (x y:SI):Prop where
 st:y.st=x.st
 goals:y.goals=x.goals
 chs:simCs p s R x.chs y.chs
 nodes:y.nodes.length=x.nodes.length
 gR:∀ g∈x.goals,R g.t
def RK (p s:List C) (R:T->Prop) (o o':Option HI):Prop:=(o=none/\o'=none) ∨ ∃ r r':HI,o=some r/\o'=some r'/\r'.cl=r.cl/\r'.by_=r.by_/\r'.st=r.st/\cls s r'.l=cls p r.l/\Ns p R r.l/\∀ b∈r.cl.body,R b
def simO (p s:List C) (R:T->Prop) (o o':Option SI):Prop:=(o=none/\o'=none) ∨ ∃ x y,o=some x/\o'=some y/\LA p s R x y
section
variable {p s:List C} {R:T->Prop}
theorem sameHd.shift (b:Int) (t:T) (h:t.kind≠1):sameHd t (bv b t):=by
 cases t with
 | mk k n m ks=>
  simp only [T.kind] at h
  rw [bv,if_neg h]
  exact ⟨rfl,rfl,by simp [T.kids,jl]⟩
theorem z7 {st:ag} {t u:T} (h:Res st (.one t u)) (h3:t.kind≠1):sameHd t u:=by
 cases h with
 | @one _ v us hw hl=>
  have hv:v=t:=by
   cases hw with
   | stop _=>rfl
   | step hk _=>exact absurd (ce.1 hk).1 h3
  subst hv
  refine ⟨rfl,rfl,?_⟩
  show us.length=v.kids.length
  have:∀ {ts us:List T},Res st (.list ts us)->us.length=ts.length:=by
   intro ts
   induction ts with
   | nil=>intro us h; cases h; rfl
   | cons t ts ih=>intro us h; cases h with|cons _ h=>rw [List.length_cons,List.length_cons,ih h]
  exact this hl
theorem iX {l l':List Int} (h:cls s l'=cls p l):l'=[]↔l=[]:=by
 have:=congrArg List.length h
 simp only [cls,List.length_map] at this
 constructor
 ·rintro rfl; exact List.eq_nil_of_length_eq_zero (by simpa using this.symm)
 ·rintro rfl; exact List.eq_nil_of_length_eq_zero (by simpa using this)
theorem TryI.sim {g:T} {l:List Int} {st:ag} {o:Option HI} {n:Nat} (h:TryI p g l st o n):∀ l',cls s l'=cls p l->Ns p R l->(∀ i∈l',0<=i)->∃ o',TryI s g l' st o' n/\RK p s R o o':=by
 induction h with
 | nil=>
  intro l' hl _ _
  obtain rfl:=(iX hl).2 rfl
  exact ⟨none,.nil,.inl ⟨rfl,rfl⟩⟩
 | @hit i l cl st st' hi hu=>
  intro l' hl hok hl0
  cases l' with
  | nil=>simp [cls] at hl
  | cons j l'=>
   obtain ⟨k,rfl⟩:∃ k:Nat,j=(k:Int):=⟨j.toNat,by have:=hl0 j (by simp); omega⟩
   simp only [cls,List.map_cons,List.cons.injEq,Int.toNat_natCast] at hl
   rw [hi] at hl
   exact ⟨_,.hit hl.1 hu,.inr ⟨_,_,rfl,rfl,rfl,rfl,rfl,hl.2,fun x hx=>hok x (List.mem_cons_of_mem _ hx),hok i (List.mem_cons_self ..) cl (by rw [Int.toNat_natCast]; exact hi)⟩⟩
 | @miss i l cl st st' o n hi hu _ ih=>
  intro l' hl hok hl0
  cases l' with
  | nil=>simp [cls] at hl
  | cons j l'=>
   obtain ⟨k,rfl⟩:∃ k:Nat,j=(k:Int):=⟨j.toNat,by have:=hl0 j (by simp); omega⟩
   simp only [cls,List.map_cons,List.cons.injEq,Int.toNat_natCast] at hl
   rw [hi] at hl
   obtain ⟨o',h1,h2⟩:=ih l' hl.2 (fun x hx=>hok x (List.mem_cons_of_mem _ hx)) fun x hx=>hl0 x (List.mem_cons_of_mem _ hx)
   exact ⟨o',.miss hl.1 hu h1,h2⟩
theorem simCs.snoc {cs ds:List CI} {c d:CI} (h:simCs p s R cs ds) (hc:PM p s R c d):simCs p s R (cs++[c]) (ds++[d]):=by
 refine ⟨by simp [h.1],fun i hi hi'=>?_⟩
 by_cases hic:i<cs.length
 ·rw [List.getElem_append_left hic,List.getElem_append_left (h:=by have:=h.1; omega)]
  exact h.2 i hic _
 ·rw [List.length_append,List.length_cons,List.length_nil] at hi
  have h1:=h.1
  obtain rfl:i=cs.length:=by omega
  rw [List.getElem_append_right (Nat.le_refl _),List.getElem_append_right (by omega)]
  simpa [h1] using hc
theorem simCs.last {cs ds:List CI} {c d:CI} (h:simCs p s R (cs++[c]) (ds++[d])):simCs p s R cs ds/\PM p s R c d:=by
 have h1:cs.length=ds.length:=by have:=h.1; simpa using this
 refine ⟨⟨h1,fun i hi hi'=>?_⟩,?_⟩
 ·have:=h.2 i (by rw [List.length_append]; omega) (by rw [List.length_append]; omega)
  rwa [List.getElem_append_left hi,List.getElem_append_left hi'] at this
 ·have:=h.2 cs.length (by simp) (by simp [h1])
  rw [List.getElem_append_right (Nat.le_refl _),List.getElem_append_right (by omega)] at this
  simpa [h1] using this
theorem F8 (hR:Alk p s R) {cs ds:List CI} {ns ms:List NI} {g:T} {a:Int} {rest:List GI} {b:ag} {r r':HI} (hcs:simCs p s R cs ds) (hn:ms.length=ns.length) (hr:∀ x∈rest,R x.t)
  (hh:r'.cl=r.cl/\r'.by_=r.by_/\r'.st=r.st/\cls s r'.l=cls p r.l/\Ns p R r.l/\∀ b∈r.cl.body,R b):LA p s R (fO cs ns g a rest b r) (fO ds ms g a rest b r'):=by
 obtain ⟨h1,h2,h3,h4,h5,h6⟩:=hh
 refine ⟨h3,?_,?_,?_,?_⟩
 ·show ji r'.cl r'.by_ ds.length a rest=ji r.cl r.by_ cs.length a rest
  rw [h1,h2,hcs.1]
 ·show simCs p s R (cs++(if r.l=[] then [] else [⟨g,a,rest,r.l,b,ns.length⟩])) (ds++(if r'.l=[] then [] else [⟨g,a,rest,r'.l,b,ms.length⟩]))
  by_cases hl:r.l=[]
  ·rw [if_pos hl,if_pos ((iX h4).2 hl),List.append_nil,List.append_nil]; exact hcs
  ·rw [if_neg hl,if_neg (fun e=>hl ((iX h4).1 e))]
   exact hcs.snoc ⟨rfl,rfl,rfl,h4,rfl,hn,hr,h5⟩
 ·show (Di ms a.toNat r'.i).length=(Di ns a.toNat r.i).length
  rw [rH,rH,hn]
 ·intro x hx
  have hx':x∈ji r.cl r.by_ cs.length a rest:=hx
  unfold ji at hx'
  rcases List.mem_append.1 hx' with hx'|hx'
  ·obtain ⟨t,ht,rfl⟩:=List.mem_map.1 hx'
   have h3:=hR.three t (h6 t ht)
   exact hR.hd t _ (h6 t ht) (sameHd.shift _ t (by omega))
  ·exact hr x hx'
theorem BackI.sim (hR:Alk p s R) {cs:List CI} {n:Nat} {ns:List NI} {o:Option SI} (h:BackI p cs n ns o):∀ ds ms,simCs p s R cs ds->ms.length=ns.length->(∀ d∈ds,∀ i∈d.left,0<=i)->∃ o',BackI s ds n ms o'/\simO p s R o o':=by
 induction h with
 | nil=>
  intro ds ms hd _ _
  obtain rfl:ds=[]:=List.eq_nil_of_length_eq_zero (by simpa using hd.1.symm)
  exact ⟨none,.nil,.inl ⟨rfl,rfl⟩⟩
 | @hit cs c n m ns r ht=>
  intro ds ms hd hn h0
  obtain ⟨ds',d,rfl⟩:∃ ds' d,ds=ds'++[d]:=⟨ds.dropLast,ds.getLast (by intro e; rw [e] at hd; simp [simCs] at hd),(List.dropLast_concat_getLast _).symm⟩
  obtain ⟨h1,h2⟩:=hd.last
  obtain ⟨o',q1,q2⟩:=ht.sim (s:=s) (R:=R) d.left h2.left h2.lR (h0 d (by simp))
  rcases q2 with ⟨q,_⟩|⟨r1,r',e1,rfl,hh⟩
  ·cases q
  simp only [Option.some.injEq] at e1
  subst e1
  have q1:TryI s d.goal d.left (be d.binds n) (some r') m:=by rw [h2.goal,h2.binds]; exact q1
  refine ⟨_,.hit q1,.inr ⟨_,_,rfl,rfl,?_⟩⟩
  rw [h2.goal,h2.node,h2.rest,h2.binds,h2.taken]
  exact F8 hR h1 (by rw [List.length_take,List.length_take,hn]) h2.rR hh
 | @miss cs c n m ns o ht _ ih=>
  intro ds ms hd hn h0
  obtain ⟨ds',d,rfl⟩:∃ ds' d,ds=ds'++[d]:=⟨ds.dropLast,ds.getLast (by intro e; rw [e] at hd; simp [simCs] at hd),(List.dropLast_concat_getLast _).symm⟩
  obtain ⟨h1,h2⟩:=hd.last
  obtain ⟨o',q1,q2⟩:=ht.sim (s:=s) (R:=R) d.left h2.left h2.lR (h0 d (by simp))
  rcases q2 with ⟨_,rfl⟩|⟨r1,r',e1,_⟩
  ·have q1:TryI s d.goal d.left (be d.binds n) none m:=by rw [h2.goal,h2.binds]; exact q1
   obtain ⟨o2,k1,k2⟩:=ih ds' (ms.take d.taken) h1 (by rw [List.length_take,List.length_take,hn,h2.taken]) fun x hx=>h0 x (List.mem_append_left _ hx)
   exact ⟨o2,.miss q1 k1,k2⟩
  ·cases e1
theorem simO.isSome {o o':Option SI} (h:simO p s R o o'):o'.isSome=o.isSome:=by
 rcases h with ⟨rfl,rfl⟩|⟨x,y,rfl,rfl,_⟩ <;> rfl
theorem StepI.sim (hR:Alk p s R) {x y:SI} {o:Option SI} {e:Int} (h:StepI p false x o e) (hs:LA p s R x y) (h0:∀ d∈y.chs,∀ i∈d.left,0<=i):∃ o',StepI s false y o' e/\simO p s R o o':=by
 have hst:=hs.st
 have hgo:=hs.goals
 have hgR:=hs.gR
 have nd:∀ z:NI,(y.nodes++[z]).length=(x.nodes++[z]).length:=fun z=>by simp [hs.nodes]
 have hRt:∀ {g:GI} {gs:List GI} {t:T},x.goals=g::gs->Res x.st (.one g.t t)->R t:=fun {g gs t} hg ht=>by
  have h1:=hgR g (by rw [hg]; simp)
  have h3:=hR.three _ h1
  exact hR.hd _ _ h1 (z7 ht (by omega))
 cases h with
 | large hg ht hsm=>exact ⟨none,.large (by rw [hgo]; exact hg) (by rw [hst]; exact ht) hsm,.inl ⟨rfl,rfl⟩⟩
 | noCut _ _ _ _ h=>cases h
 | @cut g gs t hg ht hsm hc hnc=>
  refine ⟨_,.cut (by rw [hgo]; exact hg) (by rw [hst]; exact ht) hsm hc rfl,.inr ⟨_,_,rfl,rfl,hst,rfl,?_,nd _,fun z hz=>hgR z (by rw [hg]; exact List.mem_cons_of_mem _ hz)⟩⟩
  refine ⟨by rw [List.length_take,List.length_take,hs.chs.1],fun i hi hi'=>?_⟩
  rw [List.length_take] at hi hi'
  rw [List.getElem_take,List.getElem_take]
  exact hs.chs.2 i (by omega) (by omega)
 | @solved g gs t st hg ht hsm hc hb hB=>
  exact ⟨_,.solved (by rw [hgo]; exact hg) (by rw [hst]; exact ht) hsm hc hb (by rw [hst]; exact hB),.inr ⟨_,_,rfl,rfl,rfl,rfl,hs.chs,nd _,fun z hz=>hgR z (by rw [hg]; exact List.mem_cons_of_mem _ hz)⟩⟩
 | @fail g gs t st o hg ht hsm hc hb hB ho=>
  obtain ⟨o',k1,k2⟩:=ho.sim hR y.chs _ hs.chs (nd ⟨t,g.up,-1⟩) h0
  rw [<- k2.isSome]
  exact ⟨o',.fail (by rw [hgo]; exact hg) (by rw [hst]; exact ht) hsm hc hb (by rw [hst]; exact hB) (by rw [hst]; exact k1),k2⟩
 | err hg ht hsm hc hb hB h1 h2=>exact ⟨none,.err (by rw [hgo]; exact hg) (by rw [hst]; exact ht) hsm hc hb (by rw [hst]; exact hB) h1 h2,.inl ⟨rfl,rfl⟩⟩
 | unknown hg ht hsm hc hb hf=>
  have hf':=hR.for_ _ (hRt hg ht) hc hb
  exact ⟨none,.unknown (by rw [hgo]; exact hg) (by rw [hst]; exact ht) hsm hc hb ((iX hf'.symm).2 hf),.inl ⟨rfl,rfl⟩⟩
 | @took g gs t r m hg ht hsm hc hb hf hT=>
  have hRT:=hRt hg ht
  have hf':=hR.for_ _ hRT hc hb
  obtain ⟨o',q1,q2⟩:=hT.sim (s:=s) (R:=R) (fS s t) hf'.symm (hR.body t hRT) fun i hi=>(l0 s t i hi).1
  rcases q2 with ⟨q,_⟩|⟨r1,r',e1,rfl,hh⟩
  ·cases q
  simp only [Option.some.injEq] at e1
  subst e1
  refine ⟨_,.took (by rw [hgo]; exact hg) (by rw [hst]; exact ht) hsm hc hb (fun e=>hf ((iX hf'.symm).1 e)) (by rw [hst]; exact q1),.inr ⟨_,_,rfl,rfl,?_⟩⟩
  rw [hst,hs.nodes]
  exact F8 hR hs.chs (nd _) (fun z hz=>hgR z (by rw [hg]; exact List.mem_cons_of_mem _ hz)) hh
 | @back g gs t m o hg ht hsm hc hb hf hT ho=>
  have hRT:=hRt hg ht
  have hf':=hR.for_ _ hRT hc hb
  obtain ⟨o',q1,q2⟩:=hT.sim (s:=s) (R:=R) (fS s t) hf'.symm (hR.body t hRT) fun i hi=>(l0 s t i hi).1
  rcases q2 with ⟨_,rfl⟩|⟨r1,r',e1,_⟩
  ·obtain ⟨o2,k1,k2⟩:=ho.sim hR y.chs _ hs.chs (nd ⟨t,g.up,-1⟩) h0
   rw [<- k2.isSome]
   exact ⟨o2,.back (by rw [hgo]; exact hg) (by rw [hst]; exact ht) hsm hc hb (fun e=>hf ((iX hf'.symm).1 e)) (by rw [hst]; exact q1) k1,k2⟩
  ·cases e1
theorem okCs.pos {m n k:Nat} {cs:List CI} (h:okCs m n k cs):∀ d∈cs,∀ i∈d.left,0<=i:=fun d hd i hi=>by
 obtain ⟨j,hj,rfl⟩:=List.getElem_of_mem hd
 exact ((h.at_ j hj).1.left i hi).1
theorem RunI.sim (hR:Alk p s R) (hp:∀ cl∈p,ie cl) (hq:∀ cl∈s,ie cl) {vars:List Int} {most n:Nat} {x:SI} {out:List (List T)} {r:List (List T) × Int} (h:RunI p vars most n x out r):∀ y,LA p s R x y->pQ p.length x->pQ s.length y->RunI s vars most n y out r:=by
 induction h with
 | fuel hg=>intro y hs _ _; exact .fuel (by rw [hs.goals]; exact hg)
 | stop hg hst=>
  intro y hs _ hy
  obtain ⟨o',k1,k2⟩:=hst.sim hR hs hy.chs.pos
  rcases k2 with ⟨_,rfl⟩|⟨_,_,e,_⟩
  ·exact .stop (by rw [hs.goals]; exact hg) k1
  ·cases e
 | step hg hst _ ih=>
  intro y hs hx hy
  obtain ⟨o',k1,k2⟩:=hst.sim hR hs hy.chs.pos
  rcases k2 with ⟨e,_⟩|⟨x',y',e,rfl,hs'⟩
  ·cases e
  simp only [Option.some.injEq] at e
  subst e
  exact .step (by rw [hs.goals]; exact hg) k1 (ih y' hs' (hst.ok hp hx _ rfl).1 (k1.ok hq hy _ rfl).1)
 | more hg hm=>intro y hs _ _; exact .more (by rw [hs.goals]; exact hg) hm
 | large hg hm hv=>intro y hs _ _; exact .large (by rw [hs.goals]; exact hg) hm (by rw [hs.st]; exact hv)
 | last hg hm hv hb=>
  intro y hs _ hy
  obtain ⟨o',k1,k2⟩:=hb.sim hR y.chs y.nodes hs.chs hs.nodes hy.chs.pos
  rcases k2 with ⟨_,rfl⟩|⟨_,_,e,_⟩
  ·exact .last (by rw [hs.goals]; exact hg) hm (by rw [hs.st]; exact hv) (by rw [hs.st]; exact k1)
  ·cases e
 | next hg hm hv hb _ ih=>
  intro y hs hx hy
  obtain ⟨o',k1,k2⟩:=hb.sim hR y.chs y.nodes hs.chs hs.nodes hy.chs.pos
  rcases k2 with ⟨e,_⟩|⟨x',y',e,rfl,hs'⟩
  ·cases e
  simp only [Option.some.injEq] at e
  subst e
  refine .next (by rw [hs.goals]; exact hg) hm (by rw [hs.st]; exact hv) (by rw [hs.st]; exact k1) (ih y' hs' (hb.ok hp hx.chs _ rfl).1 ?_)
  have hyc:=hy.chs
  rw [hs.st] at hyc
  exact (k1.ok hq hyc _ rfl).1
end
end
section
open Go Go.RowKit
attribute [local irreducible] Run CondV ai az

def isP (x:Pd) (c:C):Bool:=kB (bU c.head) x
def eo (p:List C) (x:Pd):List C:=(p.filter fun c=>!isP x c)++p.filter (isP x)
def mg (p:List C) (x:Pd):List C:=if co p=true then eo p x else []
theorem GV (p:List C) (x:Pd):(eo p x).length+wP (eo p x)=p.length+wP p:=by
 have:=Cw (isP x) p
 rw [eo,CN,List.length_append]
 omega
end
section
open Go Go.RowKit
attribute [local irreducible] Run CondV ai az

def inP (l:List Pd) (c:C):Bool:=yI l (bU c.head)
def I0 (p:List C) (q:List T):List C:=if (co p && cQ q)=true then p.filter (inP (rc p (fh [] q))) else []
end
section
open Go Go.RowKit

theorem zh {l:List Pd} {x:Pd}:yI l x=true↔x∈l:=by
 simp [yI,lj]
theorem zD {l:List Pd} {x y:Pd}:y∈jr l x↔y∈l ∨ y=x:=by
 unfold jr
 split
 ·rename_i h
  rw [zh] at h
  exact ⟨.inl,fun h'=>h'.elim id fun e=>e ▸ h⟩
 ·simp
theorem C8 {l:List Pd} {x:Pd} (h:l.Nodup):(jr l x).Nodup:=by
 unfold jr
 split
 ·exact h
 ·rename_i hx
  rw [zh] at hx
  rw [List.nodup_append]
  refine ⟨h,by simp,fun a ha b hb e=>?_⟩
  simp at hb
  subst hb
  subst e
  exact hx ha
theorem LV (l:List Pd) (x:Pd):∃ s,jr l x=l++s:=by
 unfold jr
 split
 ·exact ⟨[],by simp⟩
 ·exact ⟨[x],rfl⟩
theorem qY:∀ (ts:List T) (l:List Pd) (y:Pd),y∈fh l ts↔y∈l ∨ ∃ t∈ts,cG t=true/\bU t=y
 | [],l,y=>by simp [fh]
 | t::ts,l,y=>by
  have e:fh l (t::ts)=fh (if cG t=true then jr l (bU t) else l) ts:=rfl
  rw [e,qY ts]
  split
  ·rename_i h
   rw [zD]
   constructor
   ·rintro ((h1|h1)|⟨u,h1,h2⟩)
    ·exact .inl h1
    ·exact .inr ⟨t,List.mem_cons_self ..,h,h1.symm⟩
    ·exact .inr ⟨u,List.mem_cons_of_mem _ h1,h2⟩
   ·rintro (h1|⟨u,h1,h2,h3⟩)
    ·exact .inl (.inl h1)
    ·rcases List.mem_cons.1 h1 with rfl|h1
     ·exact .inl (.inr h3.symm)
     ·exact .inr ⟨u,h1,h2,h3⟩
  ·rename_i h
   constructor
   ·rintro (h1|⟨u,h1,h2⟩)
    ·exact .inl h1
    ·exact .inr ⟨u,List.mem_cons_of_mem _ h1,h2⟩
   ·rintro (h1|⟨u,h1,h2,h3⟩)
    ·exact .inl h1
    ·rcases List.mem_cons.1 h1 with rfl|h1
     ·exact absurd h2 h
     ·exact .inr ⟨u,h1,h2,h3⟩
theorem Cp:∀ (ts:List T) (l:List Pd),l.Nodup->(fh l ts).Nodup
 | [],l,h=>h
 | t::ts,l,h=>by
  have e:fh l (t::ts)=fh (if cG t=true then jr l (bU t) else l) ts:=rfl
  rw [e]
  refine Cp ts _ ?_
  split
  ·exact C8 h
  ·exact h
theorem qr (x:Pd):∀ (p:List C) (l:List Pd) (y:Pd),y∈fL l p x↔y∈l ∨ ∃ c∈p,bU c.head=x/\∃ t∈c.body,cG t=true/\bU t=y
 | [],l,y=>by simp [fL]
 | c::p,l,y=>by
  have e:fL l (c::p) x=fL (if kB (bU c.head) x=true then fh l c.body else l) p x:=rfl
  rw [e,qr x p]
  split
  ·rename_i h
   rw [lj,decide_eq_true_eq] at h
   rw [qY]
   constructor
   ·rintro ((h1|h1)|⟨u,h1,h2⟩)
    ·exact .inl h1
    ·exact .inr ⟨c,List.mem_cons_self ..,h,h1⟩
    ·exact .inr ⟨u,List.mem_cons_of_mem _ h1,h2⟩
   ·rintro (h1|⟨u,h1,h2,h3⟩)
    ·exact .inl (.inl h1)
    ·rcases List.mem_cons.1 h1 with rfl|h1
     ·exact .inl (.inr h3)
     ·exact .inr ⟨u,h1,h2,h3⟩
  ·rename_i h
   rw [lj,decide_eq_true_eq] at h
   constructor
   ·rintro (h1|⟨u,h1,h2⟩)
    ·exact .inl h1
    ·exact .inr ⟨u,List.mem_cons_of_mem _ h1,h2⟩
   ·rintro (h1|⟨u,h1,h2,h3⟩)
    ·exact .inl h1
    ·rcases List.mem_cons.1 h1 with rfl|h1
     ·exact absurd h2 h
     ·exact .inr ⟨u,h1,h2,h3⟩
theorem G9 {p:List C} {x y:Pd}:y∈ge p x↔∃ c∈p,bU c.head=x/\∃ t∈c.body,cG t=true/\bU t=y:=by
 rw [ge,qr]
 simp
theorem kJ:∀ (p:List C) (l:List Pd) (y:Pd),y∈eA l p↔y∈l ∨ ∃ c∈p,bU c.head=y
 | [],l,y=>by simp [eA]
 | c::p,l,y=>by
  have e:eA l (c::p)=eA (jr l (bU c.head)) p:=rfl
  rw [e,kJ p,zD]
  constructor
  ·rintro ((h1|h1)|⟨u,h1,h2⟩)
   ·exact .inl h1
   ·exact .inr ⟨c,List.mem_cons_self ..,h1.symm⟩
   ·exact .inr ⟨u,List.mem_cons_of_mem _ h1,h2⟩
  ·rintro (h1|⟨u,h1,h2⟩)
   ·exact .inl (.inl h1)
   ·rcases List.mem_cons.1 h1 with rfl|h1
    ·exact .inl (.inr h2.symm)
    ·exact .inr ⟨u,h1,h2⟩
theorem lX:∀ (p:List C) (l:List Pd),l.Nodup->(eA l p).Nodup
 | [],l,h=>h
 | c::p,l,h=>by
  have e:eA l (c::p)=eA (jr l (bU c.head)) p:=rfl
  rw [e]
  exact lX p _ (C8 h)
theorem zJ {α:Type} [DecidableEq α]:∀ {l m:List α},l.Nodup->(∀ x∈l,x∈m)->l.length<=m.length
 | [],_,_,_=>Nat.zero_le _
 | x::l,m,h,hs=>by
  rw [List.nodup_cons] at h
  have hx:=hs x (List.mem_cons_self ..)
  have h1:=zJ (l:=l) (m:=m.erase x) h.2 fun y hy=>by
   have hne:y≠x:=fun e=>h.1 (e ▸ hy)
   exact (List.mem_erase_of_ne hne).2 (hs y (List.mem_cons_of_mem _ hy))
  rw [List.length_erase_of_mem hx] at h1
  have:0<m.length:=List.length_pos_of_mem hx
  rw [List.length_cons]
  omega

inductive Star (p:List C) (x:Pd):Pd->Prop
 | refl:Star p x x
 | step {y z:Pd}:Star p x y->z∈ge p y->Star p x z
theorem Star.trans {p:List C} {x y z:Pd} (h:Star p x y) (h':Star p y z):Star p x z:=by
 induction h' with
 | refl=>exact h
 | step _ hz ih=>exact .step ih hz
theorem me:∀ (m l:List Pd) (y:Pd),y∈eK l m↔y∈l ∨ y∈m
 | [],l,y=>by simp [eK]
 | x::m,l,y=>by
  have e:eK l (x::m)=eK (jr l x) m:=rfl
  rw [e,me m,zD,List.mem_cons]
  constructor
  ·rintro ((h|h)|h)
   ·exact .inl h
   ·exact .inr (.inl h)
   ·exact .inr (.inr h)
  ·rintro (h|h|h)
   ·exact .inl (.inl h)
   ·exact .inl (.inr h)
   ·exact .inr h
theorem B5:∀ (m l:List Pd),l.Nodup->(eK l m).Nodup
 | [],_,h=>h
 | _::m,_,h=>B5 m _ (C8 h)
theorem yj:∀ (m l:List Pd),∃ s,eK l m=l++s
 | [],l=>⟨[],by simp [eK]⟩
 | x::m,l=>by
  obtain ⟨s,hs⟩:=LV l x
  obtain ⟨s',hs'⟩:=yj m (jr l x)
  have e:eK l (x::m)=eK (jr l x) m:=rfl
  exact ⟨s++s',by rw [e,hs',hs,List.append_assoc]⟩
theorem zy {G:List Pd}:∀ (m l:List Pd),(∀ x∈m,x∈G)->(eK l m).length+pot G (eK l m)<=l.length+pot G l
 | [],l,_=>Nat.le_refl _
 | x::m,l,h=>by
  have e:eK l (x::m)=eK (jr l x) m:=rfl
  have h1:=zy m (jr l x) fun y hy=>h y (List.mem_cons_of_mem _ hy)
  have h2:=K8 (l:=l) (h x (List.mem_cons_self ..))
  rw [e]
  omega
theorem wJ (p:List C):∀ (n:Nat) (l:List Pd) (i:Nat),l.length+pot (gPs p) l<=n+i->(∀ j (h:j<l.length),j<i->∀ z∈ge p l[j],z∈l)->l.Nodup->
  (lT n p l i).Nodup/\(∀ y∈lT n p l i,∃ x∈l,Star p x y)/\(∀ x∈l,x∈lT n p l i)/\∀ y∈lT n p l i,∀ z∈ge p y,z∈lT n p l i
 | 0,l,i,hn,hc,hd=>by
  simp only [lT]
  refine ⟨hd,fun y hy=>⟨y,hy,.refl⟩,fun x hx=>hx,fun y hy z hz=>?_⟩
  obtain ⟨j,hj,rfl⟩:=List.mem_iff_getElem.1 hy
  exact hc j hj (by omega) z hz
 | n+1,l,i,hn,hc,hd=>by
  rw [lT]
  split
  ·rename_i hi
   have hp:=zy (G:=gPs p) (ge p l[i]) l fun x hx=>IG hx
   obtain ⟨s,hs⟩:=yj (ge p l[i]) l
   obtain ⟨h1,h2,h3,h4⟩:=wJ p n (eK l (ge p l[i])) (i+1) (by omega) (fun j hj hji z hz=>by
    rw [me]
    have hjl:j<l.length:=by omega
    have ej:(eK l (ge p l[i]))[j]=l[j]:=by
     have:(eK l (ge p l[i]))[j]?=l[j]?:=by rw [hs,List.getElem?_append_left hjl]
     rw [List.getElem?_eq_getElem hj,List.getElem?_eq_getElem hjl] at this
     exact Option.some.inj this
    rw [ej] at hz
    by_cases e:j=i
    ·subst e; exact .inr hz
    ·exact .inl (hc j hjl (by omega) z hz)) (B5 _ _ hd)
   refine ⟨h1,fun y hy=>?_,fun x hx=>h3 x ((me _ _ _).2 (.inl hx)),h4⟩
   obtain ⟨x,hx,hxy⟩:=h2 y hy
   rcases (me _ _ _).1 hx with hx|hx
   ·exact ⟨x,hx,hxy⟩
   ·exact ⟨l[i],List.getElem_mem hi,Star.trans (.step .refl hx) hxy⟩
  ·refine ⟨hd,fun y hy=>⟨y,hy,.refl⟩,fun x hx=>hx,fun y hy z hz=>?_⟩
   obtain ⟨j,hj,rfl⟩:=List.mem_iff_getElem.1 hy
   exact hc j hj (by omega) z hz
theorem wl (p:List C) {l:List Pd} (hd:l.Nodup):(rc p l).Nodup/\(∀ y,y∈rc p l↔∃ x∈l,Star p x y)/\∀ y∈rc p l,∀ z∈ge p y,z∈rc p l:=by
 obtain ⟨h1,h2,h3,h4⟩:=wJ p (l.length+(gPs p).length) l 0 (by have:=Pc (gPs p) l; omega) (fun j _ h=>by omega) hd
 refine ⟨h1,fun y=>⟨h2 y,?_⟩,h4⟩
 rintro ⟨x,hx,hs⟩
 induction hs with
 | refl=>exact h3 x hx
 | step _ hz ih=>exact h4 _ ih _ hz
theorem IL {p:List C} {l:List Pd} (hd:l.Nodup) {y:Pd}:y∈rc p l↔∃ x∈l,Star p x y:=(wl p hd).2.1 y

theorem CP (p:List C) (x:Pd):eo (eo p x) x=eo p x:=by
 simp only [eo,List.filter_append,List.filter_filter]
 have h1:(p.filter fun a=>(!isP x a) && isP x a)=[]:=by
  rw [List.filter_eq_nil_iff]; intro c _; cases isP x c <;> simp
 have h2:(p.filter fun a=>isP x a && !isP x a)=[]:=by
  rw [List.filter_eq_nil_iff]; intro c _; cases isP x c <;> simp
 simp only [Bool.and_self,h1,h2,List.append_nil,List.nil_append]
theorem Ae {p:List C} {x:Pd} {c:C}:c∈eo p x↔c∈p:=by
 simp only [eo,List.mem_append,List.mem_filter]
 cases isP x c <;> simp
theorem Hs (p:List C) (x:Pd):(eo p x).length=p.length:=by
 have:=GV p x
 simp only [eo,List.length_append]
 induction p with
 | nil=>rfl
 | cons c p ih=>
  have ih:=ih (GV p x)
  rw [List.filter_cons,List.filter_cons]
  cases isP x c <;> simp <;> omega
theorem FM {p:List C} (h:co p=true) (x:Pd):co (eo p x)=true:=by
 rw [co,Bool.and_eq_true,List.all_eq_true,decide_eq_true_eq] at h ⊢
 exact ⟨by rw [Hs]; exact h.1,fun c hc=>h.2 c (Ae.1 hc)⟩
theorem CU {p:List C} (h:co p=true) (x:Pd):mg (mg p x) x=mg p x/\co (mg p x)=true/\(xS (mg p x)).length=(xS p).length:=by
 have h2:=FM h x
 have e:mg p x=eo p x:=if_pos h
 refine ⟨by rw [e,mg,if_pos h2,CP],by rw [e]; exact h2,?_⟩
 rw [e,xS,xS,if_pos h,if_pos h2]
 have hm:∀ y,y∈eA [] (eo p x)↔y∈eA [] p:=fun y=>by
  rw [kJ,kJ]
  simp only [Ae]
 exact Nat.le_antisymm (zJ (lX _ _ List.nodup_nil) fun y hy=>(hm y).1 hy) (zJ (lX _ _ List.nodup_nil) fun y hy=>(hm y).2 hy)
end
section
open Go Go.RowKit
theorem rX {x y:Pd}:kB x y=true↔x=y:=by rw [lj,decide_eq_true_eq]
theorem CJ (f:C->Bool) (P:List C):∀ (p pre:List C),P=pre++p->(fM f p pre.length).map (fun i=>P[i.toNat]?)=(p.filter f).map some
 | [],pre,_=>by simp [fM]
 | c::p,pre,h=>by
  have ih:=CJ f P p (pre++[c]) (by rw [h]; simp)
  rw [List.length_append,List.length_cons,List.length_nil] at ih
  have hc:P[pre.length]?=some c:=by rw [h]; simp
  rw [fM]
  split
  ·rename_i hf
   rw [List.filter_cons_of_pos hf,List.map_cons,List.map_cons,Int.toNat_natCast,hc,ih]
  ·rename_i hf
   rw [List.filter_cons_of_neg hf,ih]
theorem nS (p:List C) (t:T):cls p (fS p t)=(p.filter fun c=>kB (bU c.head) (bU t)).map some:=CJ _ p p [] rfl
theorem wa {t u:T} (h:sameHd t u):bU u=bU t:=by
 unfold bU
 rw [h.2.1,h.2.2]
theorem y9 {t u:T} (h:sameHd t u):dI u=dI t:=by
 unfold dI
 rw [h.1,h.2.1,h.2.2]
theorem fW {t u:T} (h:sameHd t u):bB u=bB t:=by
 unfold bB
 rw [h.1,h.2.1,h.2.2]
theorem CB {p:List C} {t:T} {i:Int} (hi:i∈fS p t) {cl:C} (hcl:p[i.toNat]?=some cl):cl∈p/\bU cl.head=bU t:=by
 obtain ⟨j,_,hj,hlt,hf⟩:=yn _ p 0 i hi
 have:i.toNat=j:=by omega
 rw [this,List.getElem?_eq_getElem hlt] at hcl
 cases hcl
 exact ⟨List.getElem_mem hlt,rX.1 hf⟩
theorem gQ {t:T} (h:df t=true):t.kind=3:=of_decide_eq_true (KQ h)
theorem vm {p:List C} (h:co p=true) {cl:C} (hc:cl∈p) {b:T} (hb:b∈cl.body):df b=true:=by
 rw [co,Bool.and_eq_true,List.all_eq_true] at h
 have:=h.2 cl hc
 rw [bh,Bool.and_eq_true,Bool.and_eq_true,List.all_eq_true] at this
 exact this.2.1 b hb
theorem Kz {p s:List C} {R:T->Prop} {q:List T} (h:∀ t∈q,R t):LA p s R (fg q) (fg q):=
 ⟨rfl,rfl,⟨rfl,fun i hi=>by simp [fg] at hi⟩,rfl,fun g hg=>by
  obtain ⟨t,ht,rfl⟩:=List.mem_map.1 hg
  exact h t ht⟩
theorem SolR.sim {p s:List C} {R:T->Prop} {q:List T} {most fuel:Nat} {r:List (List T) × Int} (hA:Alk p s R) (hp:co p=true) (hs:co s=true) (hq:cQ q=true) (hR:∀ t∈q,R t) (h:SolR p q most fuel r):SolR s q most fuel r:=by
 rcases h with ⟨_,h⟩|⟨h,_⟩
 ·exact .inl ⟨by rw [hs,hq]; rfl,h.sim hA (gG hp).1 (gG hs).1 _ (Kz hR) (kR hq _) (kR hq _)⟩
 ·rw [hp,hq] at h
  cases h
theorem SolR.bad {p s:List C} {q:List T} {most fuel:Nat} {r:List (List T) × Int} (hp:co p=true) (hs:co s=true) (hq:cQ q=false) (h:SolR p q most fuel r):SolR s q most fuel r:=by
 rcases h with ⟨h,_⟩|⟨_,h⟩
 ·rw [hp,hq] at h
  cases h
 ·exact .inr ⟨by rw [hs,hq]; rfl,h⟩
theorem C4 (p:List C) (x:Pd) (f:C->Bool) (h:(∀ c,f c=true->isP x c=true) ∨ (∀ c,f c=true->isP x c=false)):(eo p x).filter f=p.filter f:=by
 unfold eo
 rw [List.filter_append,List.filter_filter,List.filter_filter]
 rcases h with h|h
 ·have e1:p.filter (fun c=>f c && !isP x c)=[]:=List.filter_eq_nil_iff.2 fun c _ hc=>by
   rw [Bool.and_eq_true] at hc
   rw [h c hc.1] at hc
   exact absurd hc.2 (by decide)
  have e2:p.filter (fun c=>f c && isP x c)=p.filter f:=List.filter_congr fun c _=>by
   cases hc:f c with
   | false=>rfl
   | true=>rw [h c hc]; rfl
  rw [e1,e2]
  rfl
 ·have e1:p.filter (fun c=>f c && !isP x c)=p.filter f:=List.filter_congr fun c _=>by
   cases hc:f c with
   | false=>rfl
   | true=>rw [h c hc]; rfl
  have e2:p.filter (fun c=>f c && isP x c)=[]:=List.filter_eq_nil_iff.2 fun c _ hc=>by
   rw [Bool.and_eq_true] at hc
   rw [h c hc.1] at hc
   exact absurd hc.2 (by decide)
  rw [e1,e2,List.append_nil]
theorem KR {p:List C} (hp:co p=true) (x:Pd):Alk p (eo p x) fun t=>t.kind=3:=by
 refine ⟨fun t _ _ _=>?_,fun t _ i hi cl hcl b hb=>gQ (vm hp (CB hi hcl).1 hb),fun t u h hs=>by rw [hs.1]; exact h,fun t h=>h⟩
 rw [nS,nS,C4]
 ·by_cases h:bU t=x
  ·left
   intro c hc
   unfold isP
   rw [rX] at hc ⊢
   rw [hc,h]
  ·right
   intro c hc
   rw [rX] at hc
   cases hx:isP x c with
   | false=>rfl
   | true=>
    unfold isP at hx
    rw [rX] at hx
    exact absurd (hc.symm.trans hx) h
theorem SolR.moved {p:List C} {q:List T} {most fuel:Nat} {r:List (List T) × Int} (hp:co p=true) (x:Pd) (h:SolR p q most fuel r):SolR (mg p x) q most fuel r:=by
 have h2:=(CU hp x).2.1
 have e:mg p x=eo p x:=if_pos hp
 rw [e] at h2 ⊢
 cases hq:cQ q with
 | false=>exact h.bad hp h2 hq
 | true=>
  refine h.sim (KR hp x) hp h2 hq fun t ht=>?_
  rw [cQ,Bool.and_eq_true,List.all_eq_true] at hq
  exact gQ (hq.2 t ht)
end
section
open Go Go.RowKit
theorem z4 {t:T} (h:df t=true) (hc:dI t=false) (hb:bB t=false):cG t=true:=by
 rw [df,hc,hb] at h
 simpa using (Bool.and_eq_true_iff.1 h).2
theorem pK {h t:T} (hp:cG h=true) (he:bU h=bU t):dI t=false/\bB t=false:=by
 have e1:h.name=t.name:=congrArg Pd.name he
 have e2:(h.kids.length:Int)=(t.kids.length:Int):=congrArg Pd.arity he
 rw [cG,Bool.and_eq_true,Bool.and_eq_true,Bool.and_eq_true] at hp
 obtain ⟨_,hw,hb,_⟩:=hp
 rw [e1] at hw
 rw [e1,e2] at hb
 constructor
 ·cases hc:dI t with
  | false=>rfl
  | true=>
   rw [dI,Bool.and_eq_true,Bool.and_eq_true] at hc
   have hn:=of_decide_eq_true hc.2.1
   rw [hn] at hw
   exact absurd hw (by decide +kernel)
 ·rw [bB]
  simp only [Bool.not_eq_true'] at hb
  rw [hb,Bool.and_false]
theorem mw {p:List C} (h:co p=true) {cl:C} (hc:cl∈p):cG cl.head=true:=by
 rw [co,Bool.and_eq_true,List.all_eq_true] at h
 have:=h.2 cl hc
 rw [bh,Bool.and_eq_true,Bool.and_eq_true,Bool.and_eq_true] at this
 exact this.2.2.2
abbrev Id (p:List C) (q:List T):List Pd:=rc p (fh [] q)
theorem Mb (q:List T):(fh [] q).Nodup:=Cp q [] List.nodup_nil
theorem Ll {p:List C} {q:List T} {x z:Pd} (hx:x∈Id p q) (hz:z∈ge p x):z∈Id p q:=(wl p (Mb q)).2.2 x hx z hz
theorem LG {p:List C} {q:List T} {t:T} (ht:t∈q) (hp:cG t=true):bU t∈Id p q:=
 (IL (Mb q)).2 ⟨bU t,(qY q [] _).2 (.inr ⟨t,ht,hp,rfl⟩),.refl⟩
def slR (p:List C) (q:List T) (t:T):Prop:=t.kind=3/\(dI t=false->bB t=false->bU t∈Id p q)
theorem KC {p:List C} (hp:co p=true) (q:List T):Alk p (p.filter (inP (Id p q))) (slR p q):=by
 refine ⟨fun t h hc hb=>?_,fun t h i hi cl hcl b hb=>?_,fun t u h hs=>?_,fun t h=>h.1⟩
 ·rw [nS,nS,List.filter_filter]
  congr 1
  refine List.filter_congr fun c _=>?_
  cases hf:kB (bU c.head) (bU t) with
  | false=>rfl
  | true=>
   have hi:inP (Id p q) c=true:=by
    rw [inP,zh,rX.1 hf]
    exact h.2 hc hb
   rw [hi]
   rfl
 ·obtain ⟨hm,he⟩:=CB hi hcl
  obtain ⟨n1,n2⟩:=pK (mw hp hm) he
  have hg:=vm hp hm hb
  refine ⟨gQ hg,fun hc hbt=>Ll (h.2 n1 n2) (G9.2 ⟨cl,hm,he,b,hb,z4 hg hc hbt,rfl⟩)⟩
 ·refine ⟨by rw [hs.1]; exact h.1,fun hc hb=>?_⟩
  rw [y9 hs] at hc
  rw [fW hs] at hb
  rw [wa hs]
  exact h.2 hc hb
theorem H9 {p:List C} (hp:co p=true) (f:C->Bool):co (p.filter f)=true:=by
 rw [co,Bool.and_eq_true,decide_eq_true_eq,List.all_eq_true] at hp ⊢
 exact ⟨Nat.le_trans (List.length_filter_le f p) hp.1,fun c hc=>hp.2 c (List.mem_filter.1 hc).1⟩
theorem SolR.sliced {p:List C} {q:List T} {most fuel:Nat} {r:List (List T) × Int} (hv:(co p && cQ q)=true) (h:SolR p q most fuel r):SolR (I0 p q) q most fuel r:=by
 have hv':=hv
 rw [Bool.and_eq_true] at hv'
 have e:I0 p q=p.filter (inP (Id p q)):=if_pos hv
 rw [e]
 refine h.sim (KC hv'.1 q) hv'.1 (H9 hv'.1 _) hv'.2 fun t ht=>?_
 have hq:=hv'.2
 rw [cQ,Bool.and_eq_true,List.all_eq_true] at hq
 have hg:=hq.2 t ht
 exact ⟨gQ hg,fun hc hb=>LG ht (z4 hg hc hb)⟩
end
section
open Go Go.RowKit
attribute [local irreducible] Run CondV ai az

def H3 (c:C):Bool:=match c.body with
 | []=>false
 | g::_=>cG g
theorem Kl {c:C} (h:H3 c=true):∃ g gs,c.body=g::gs/\cG g=true:=by
 unfold H3 at h
 split at h
 ·cases h
 ·exact ⟨_,_,‹_›,h⟩
end
section
open Go Go.RowKit
def LE (c d:C):Bool:=bh c && (bh d && H3 c)
theorem Jj {c d:C} (h:LE c d=true):bh c=true/\bh d=true/\c.body≠[]:=by
 rw [LE,Bool.and_eq_true,Bool.and_eq_true] at h
 obtain ⟨g,gs,e,_⟩:=Kl h.2.2
 exact ⟨h.1,h.2.1,by rw [e]; simp⟩
def RB (c d r:C) (b:Bool):Prop:=(LE c d=false/\r=JX/\b=false) ∨ (LE c d=true/\∃ o,RO c d o/\((PP o=true/\r=clO o/\b=true) ∨ (PP o=false/\r=JX/\b=false)))
theorem RB.ex {c d:C} (hw:wC c<=1048576) (hw2:wC d<=1048576):∃ r b,RB c d r b:=by
 cases hg:LE c d with
 | false=>exact ⟨_,_,.inl ⟨hg,rfl,rfl⟩⟩
 | true=>
  obtain ⟨h1,h2,h3⟩:=Jj hg
  obtain ⟨o,ho⟩:=RO.ex h1 h2 hw hw2 h3
  cases hk:PP o with
  | false=>exact ⟨_,_,.inr ⟨hg,o,ho,.inr ⟨hk,rfl,rfl⟩⟩⟩
  | true=>exact ⟨_,_,.inr ⟨hg,o,ho,.inl ⟨hk,rfl,rfl⟩⟩⟩
theorem tX:wC JX<=20000:=by decide +kernel
theorem Qq {c d:C} (h1:bh c=true) (h2:bh d=true) (hw:wC c<=1048576) (hw2:wC d<=1048576) (h3:c.body≠[]) {o:Option (Option C)} (ho:RO c d o):wC (clO o)<=20000:=by
 obtain ⟨r,st,hu,hcase⟩:=ho
 rcases hcase with ⟨_,rfl⟩|⟨_,us,hus,⟨_,rfl⟩|⟨hs,rfl⟩⟩
 ·exact tX
 ·exact tX
 ·have hg:=(hu.good yv (Ce h1 h2 hw hw2 h3)).1
  obtain ⟨e1,e2⟩:=gu hg hus (F6 h1 h2)
  have hl:=Ks h1 h2
  have hs2:=Gs hs e1
  show wC (N3 (OD (ofL us)) (ofL us))<=20000
  rw [Pi]
  match us,hs2,e2 with
  | [],_,_=>exact tX
  | u::us,hs2,e2=>
   rw [wL] at hs2
   rw [List.length_cons] at hs2 e2
   simp only [wC,ofL]
   omega
theorem RB.w {c d r:C} {b:Bool} (h:RB c d r b) (hw:wC c<=1048576) (hw2:wC d<=1048576):wC r<=20000:=by
 rcases h with ⟨_,rfl,_⟩|⟨hg,o,ho,⟨_,rfl,_⟩|⟨_,rfl,_⟩⟩
 ·exact tX
 ·obtain ⟨h1,h2,h3⟩:=Jj hg
  exact Qq h1 h2 hw hw2 h3 ho
 ·exact tX
section
attribute [local irreducible] Run CondV ai az
end
end
section
open Go Go.RowKit
theorem GF {st:ag} {t v:T} (h:cD st t v):∀ v',cD st t v'->v'=v:=by
 induction h with
 | stop hl=>
  intro v' h'
  cases h' with
  | stop _=>rfl
  | step hl' _=>rw [hl] at hl'; cases hl'
 | step hl _ ih=>
  intro v' h'
  cases h' with
  | stop hl'=>rw [hl] at hl'; cases hl'
  | step hl' h2=>rw [hl] at hl'; cases hl'; exact ih _ h2
theorem Nz {st:ag} {j:Ij} (h:Res st j):match j with
  | .one t u=>∀ u',Res st (.one t u')->u'=u
  | .list ts us=>∀ us',Res st (.list ts us')->us'=us:=by
 induction h with
 | one hw _ ih=>
  intro u' h'
  cases h' with
  | one hw' hl'=>
   obtain rfl:=GF hw _ hw'
   rw [ih _ hl']
 | nil=>
  intro us' h'
  cases h'
  rfl
 | cons _ _ ih1 ih2=>
  intro us' h'
  cases h' with
  | cons h1 h2=>rw [ih1 _ h1,ih2 _ h2]
open Classical in
noncomputable def sgR (st:ag) (n:Int):T:=if h:∃ u,Res st (.one (idS n) u) then h.choose else idS n
theorem L4 {st:ag} {n:Int} {u:T} (h:Res st (.one (idS n) u)):sgR st n=u:=by
 have he:∃ u,Res st (.one (idS n) u):=⟨u,h⟩
 rw [sgR,dif_pos he]
 exact Nz h _ he.choose_spec
theorem Pp {N:Nat} {st:ag} {j:Ij} (hr:Res st j):match j with
  | .one t u=>okU N t->u=sbT (sgR st) t
  | .list ts us=>bH N ts->us=sbL (sgR st) ts:=by
 induction hr with
 | one hw hl ih=>
  rename_i t v us
  intro ho
  by_cases hk:t.kind=1
  ·obtain ⟨_,_,h3,h4⟩:=ho.var hk
   obtain ⟨k,n,s,ks⟩:=t
   simp only [T.kind,T.name,T.kids] at hk h3 h4
   subst hk; subst h3; subst h4
   rw [sbT,if_pos rfl]
   exact (L4 (.one hw hl)).symm
  ·have hv:v=t:=GF (.stop (pt.2 fun e=>absurd e hk)) _ hw
   subst hv
   have h2:=ih ho.kids
   obtain ⟨k,n,s,ks⟩:=v
   simp only [T.kind] at hk
   rw [sbT,if_neg hk]
   simp only [T.kids] at h2
   rw [h2]
   rfl
 | nil=>exact fun _=>rfl
 | cons _ _ ih1 ih2=>
  intro ho
  rw [bH] at ho
  rw [sbL,ih1 ho.1,ih2 ho.2]
end
section
open Go Go.RowKit
def lw (σ:Int->T) (st:ag):Prop:=∀ (n:Nat) (u:T),st[n]?=some (some u)->σ n=sbT σ u
mutual
def tsz:T->Nat
 | .mk _ _ _ ks=>1+NX ks
def NX:List T->Nat
 | []=>0
 | t::ts=>tsz t+NX ts
end
theorem iT (σ:Int->T) {t:T} (h:t.kind=1):sbT σ t=σ t.n:=by
 cases t
 rw [sbT]
 exact if_pos h
theorem l4 (σ:Int->T) {t:T} (h:t.kind≠1):sbT σ t=.mk t.kind t.n t.name (sbL σ t.kids):=by
 cases t
 rw [sbT]
 exact if_neg h
mutual
theorem Oo {N:Nat} (σ:Int->T):∀ t:T,okU N t->∀ m∈vT t,tsz (σ (m:Int))<=tsz (sbT σ t)
 | .mk k n s ks,h,m,hm=>by
  rw [okU] at h
  rw [vT] at hm
  rw [sbT]
  split at hm
  ·rename_i hk
   obtain ⟨h0,_⟩:=h.2.1 hk
   simp only [List.mem_singleton] at hm
   subst hm
   rw [if_pos hk,Int.toNat_of_nonneg h0]
   exact Nat.le_refl _
  ·rename_i hk
   have:=Hx σ ks h.2.2.1 m hm
   rw [if_neg hk,tsz]
   omega
theorem Hx {N:Nat} (σ:Int->T):∀ ts:List T,bH N ts->∀ m∈vTL ts,tsz (σ (m:Int))<=NX (sbL σ ts)
 | [],_,m,hm=>by simp [vTL] at hm
 | t::ts,h,m,hm=>by
  rw [bH] at h
  rw [vTL,List.mem_append] at hm
  rw [sbL,NX]
  rcases hm with hm|hm
  ·have:=Oo σ t h.1 m hm
   omega
  ·have:=Hx σ ts h.2 m hm
   omega
end
theorem P3 {N:Nat} (σ:Int->T) {t:T} (h:okU N t) (hk:t.kind≠1) {m:Nat} (hm:m∈vT t):tsz (σ (m:Int))<tsz (sbT σ t):=by
 rw [s7 hk] at hm
 have:=Hx σ t.kids h.kids m hm
 rw [l4 σ hk,tsz]
 omega
theorem PS {N:Nat} {st:ag} (hg:Good N st) {σ:Int->T} (hs:lw σ st) {m n:Nat} (h:Rch st m n):tsz (σ (n:Int))<=tsz (σ (m:Int)):=by
 induction h with
 | refl=>exact Nat.le_refl _
 | step h1 h2 _ ih=>
  rw [hs _ _ h1]
  exact Nat.le_trans ih (Oo σ _ (hg.ok _ (List.mem_of_getElem? h1)) _ h2)
theorem Me {N:Nat} {st:ag} (hg:Good N st) {σ:Int->T} (hs:lw σ st) {n:Nat} {t:T} (ht:okU N t) (hk:t.kind≠1) (ho:fp st n t):σ (n:Int)≠sbT σ t:=by
 obtain ⟨m,hm,hr⟩:=ho
 intro e
 have h1:=PS hg hs hr
 have h2:=P3 σ ht hk hm
 rw [e] at h1
 omega
theorem N8 {st:ag} {n:Nat} {t:T} (hk:t.kind=1) (hl:look st t=none) (ho:fp st n t):t.n.toNat=n:=by
 obtain ⟨m,hm,hr⟩:=ho
 rw [gH hk,List.mem_singleton] at hm
 subst hm
 cases hr with
 | refl=>rfl
 | step h1 _ _=>rcases pt.1 hl hk with e|e <;> rw [e] at h1 <;> cases h1
theorem ec {N:Nat} {st:ag} (hg:Good N st) {σ:Int->T} (hs:lw σ st) {t v:T} (h:cD st t v):okU N t->sbT σ v=sbT σ t:=by
 induction h with
 | stop=>exact fun _=>rfl
 | step hl _ ih=>
  intro ho
  obtain ⟨hk,hst⟩:=ce.1 hl
  have h0:=(ho.var hk).1
  rw [ih (hg.look_ok hl).1,iT σ hk,<- hs _ _ hst,Int.toNat_of_nonneg h0]
theorem Gu {σ:Int->T} {st:ag} {n:Nat} {t:T} (hn:st[n]?=some none):lw σ (st.set n (some t))↔lw σ st/\σ (n:Int)=sbT σ t:=by
 have hnl:n<st.length:=(List.getElem?_eq_some_iff.1 hn).1
 constructor
 ·intro h
  refine ⟨fun m u hm=>h m u ?_,h n t (List.getElem?_set_self hnl)⟩
  rw [List.getElem?_set_ne (fun e=>by subst e; rw [hn] at hm; cases hm)]
  exact hm
 ·rintro ⟨h,h2⟩ m u hm
  by_cases e:n=m
  ·subst e
   rw [List.getElem?_set_self hnl,Option.some.injEq,Option.some.injEq] at hm
   rw [<- hm]; exact h2
  ·rw [List.getElem?_set_ne e] at hm
   exact h m u hm
def Jeq (σ:Int->T):Job->Prop
 | .one a b=>sbT σ a=sbT σ b
 | .list xs ys=>sbL σ xs=sbL σ ys
theorem JG {σ:Int->T} {a b:T} (ha:a.kind≠1) (hb:b.kind≠1):sbT σ a=sbT σ b↔p6 a b=true/\sbL σ a.kids=sbL σ b.kids:=by
 rw [l4 σ ha,l4 σ hb,T.mk.injEq,Lc]
 constructor
 ·rintro ⟨h1,h2,h3,h4⟩
  have:=congrArg List.length h4
  rw [pw,pw] at this
  exact ⟨⟨h1,h2,h3,this⟩,h4⟩
 ·rintro ⟨⟨h1,h2,h3,_⟩,h4⟩
  exact ⟨h1,h2,h3,h4⟩
theorem Uni.sem {N:Nat} {st st':ag} {j:Job} {r:Bool} (hu:Uni st j r st'):Good N st->okJ N j->∀ σ,(r=true->(lw σ st'↔lw σ st/\Jeq σ j))/\(r=false->lw σ st->¬ Jeq σ j):=by
 induction hu with
 | same ha hb h1 h2 he=>
  intro hg hj σ
  refine ⟨fun _=>⟨fun hs=>⟨hs,?_⟩,fun h=>h.1⟩,fun h=>by cases h⟩
  show sbT σ _=sbT σ _
  rw [<- ec hg hs ha hj.1.1,<- ec hg hs hb hj.2.1,iT σ h1,iT σ h2,he]
 | bindA ha hb hk hns ho=>
  intro hg hj σ
  have o1:=(cU hg ha hj.1).1
  have h0:=(o1.var hk).1
  rw [Gu (li hg hk (fI ha) o1),Int.toNat_of_nonneg h0]
  refine ⟨fun _=>and_congr_right fun hs=>?_,fun h=>by cases h⟩
  show _↔sbT σ _=sbT σ _
  rw [<- ec hg hs ha hj.1.1,<- ec hg hs hb hj.2.1,iT σ hk]
 | occA ha hb hk hns ho=>
  rename_i st a b a' b'
  intro hg hj σ
  refine ⟨fun h=>(by cases h),fun _ hs=>?_⟩
  have o1:=(cU hg ha hj.1).1
  have o2:=(cU hg hb hj.2).1
  have h0:=(o1.var hk).1
  show ¬ sbT σ _=sbT σ _
  rw [<- ec hg hs ha hj.1.1,<- ec hg hs hb hj.2.1,iT σ hk]
  by_cases hb1:b'.kind=1
  ·have e:=N8 hb1 (fI hb) ho
   have h1:=(o2.var hb1).1
   exact absurd ⟨hb1,by omega⟩ hns
  ·have:=Me hg hs o2 hb1 ho
   rwa [Int.toNat_of_nonneg h0] at this
 | bindB ha hb hns hk ho=>
  intro hg hj σ
  have o1:=(cU hg hb hj.2).1
  have h0:=(o1.var hk).1
  rw [Gu (li hg hk (fI hb) o1),Int.toNat_of_nonneg h0]
  refine ⟨fun _=>and_congr_right fun hs=>?_,fun h=>by cases h⟩
  show _↔sbT σ _=sbT σ _
  rw [<- ec hg hs ha hj.1.1,<- ec hg hs hb hj.2.1,iT σ hk]
  exact eq_comm
 | occB ha hb hns hk ho=>
  intro hg hj σ
  refine ⟨fun h=>(by cases h),fun _ hs=>?_⟩
  have o1:=(cU hg hb hj.2).1
  have o2:=(cU hg ha hj.1).1
  have h0:=(o1.var hk).1
  show ¬ sbT σ _=sbT σ _
  rw [<- ec hg hs ha hj.1.1,<- ec hg hs hb hj.2.1,iT σ hk]
  have:=Me hg hs o2 hns ho
  rw [Int.toNat_of_nonneg h0] at this
  exact fun e=>this e.symm
 | clash ha hb h1 h2 hd=>
  intro hg hj σ
  refine ⟨fun h=>(by cases h),fun _ hs=>?_⟩
  show ¬ sbT σ _=sbT σ _
  rw [<- ec hg hs ha hj.1.1,<- ec hg hs hb hj.2.1,JG h1 h2,hd]
  exact fun e=>by cases e.1
 | @kids st st' a b a' b' r ha hb h1 h2 hd _ ih=>
  intro hg hj σ
  obtain ⟨i1,i2⟩:=ih hg ⟨gX (cU hg ha hj.1),gX (cU hg hb hj.2),nL hd⟩ σ
  have e:lw σ st->(Jeq σ (.one a b)↔Jeq σ (.list a'.kids b'.kids)):=fun hs=>by
   show sbT σ a=sbT σ b↔sbL σ a'.kids=sbL σ b'.kids
   rw [<- ec hg hs ha hj.1.1,<- ec hg hs hb hj.2.1,JG h1 h2,hd]
   simp
  exact ⟨fun hr=>(i1 hr).trans (and_congr_right fun hs=>(e hs).symm),fun hr hs hq=>i2 hr hs ((e hs).1 hq)⟩
 | nil=>
  intro hg hj σ
  exact ⟨fun _=>⟨fun h=>⟨h,rfl⟩,fun h=>h.1⟩,fun h=>by cases h⟩
 | stop _ ih=>
  intro hg hj σ
  obtain ⟨_,i2⟩:=ih hg ⟨hj.1 _ (List.mem_cons_self ..),hj.2.1 _ (List.mem_cons_self ..)⟩ σ
  refine ⟨fun h=>(by cases h),fun _ hs hq=>i2 rfl hs ?_⟩
  have hq:sbL σ (_::_)=sbL σ (_::_):=hq
  rw [sbL,sbL,List.cons.injEq] at hq
  exact hq.1
 | @go st st1 st' a b xs ys r h1 _ ih1 ih2=>
  intro hg hj σ
  have j1:okJ N (.one a b):=⟨hj.1 _ (List.mem_cons_self ..),hj.2.1 _ (List.mem_cons_self ..)⟩
  have j2:okJ N (.list xs ys):=⟨fun a ha=>hj.1 a (List.mem_cons_of_mem _ ha),fun b hb=>hj.2.1 b (List.mem_cons_of_mem _ hb),by have:=hj.2.2; simpa using this⟩
  obtain ⟨i1,_⟩:=ih1 hg j1 σ
  obtain ⟨i3,i4⟩:=ih2 (h1.good hg j1).1 j2 σ
  have e:Jeq σ (.list (a::xs) (b::ys))↔Jeq σ (.one a b)/\Jeq σ (.list xs ys):=by
   show sbL σ (a::xs)=sbL σ (b::ys)↔_
   rw [sbL,sbL,List.cons.injEq]
   exact Iff.rfl
  refine ⟨fun hr=>?_,fun hr hs hq=>?_⟩
  ·rw [i3 hr,i1 rfl,e,and_assoc]
  ·rw [e] at hq
   exact i4 hr ((i1 rfl).2 ⟨hs,hq.1⟩) hq.2
theorem Nq {N:Nat} {st:ag} (hg:Good N st) (κ:Int->T):lw (fun n=>sbT κ (sgR st n)) st:=by
 intro n u hn
 have ho:=hg.ok u (List.mem_of_getElem? hn)
 obtain ⟨r,hr⟩:=DF hg u ho
 have hr':Res st (.one (idS (n:Int)) r):=by
  cases hr with
  | one hw hl=>exact .one (.step (ce.2 ⟨rfl,by rw [idS]; exact hn⟩) hw) hl
 show sbT κ (sgR st n)=_
 rw [L4 hr',Pp hr ho,Gh]
theorem Nt {N:Nat} {st:ag} (hg:Good N st) {σ:Int->T} (hs:lw σ st) {j:Ij} (hr:Res st j):match j with
  | .one t u=>okU N t->sbT σ u=sbT σ t
  | .list ts us=>bH N ts->sbL σ us=sbL σ ts:=by
 induction hr with
 | one hw hl ih=>
  rename_i t v us
  intro ho
  have hv:=yU hg hw ho
  rw [<- ec hg hs hw ho]
  by_cases hk:v.kind=1
  ·obtain ⟨_,_,h3,h4⟩:=hv.var hk
   rw [iT σ hk,iT σ (t:=.mk v.kind v.n v.name us) hk]
   rfl
  ·rw [l4 σ hk,l4 σ (t:=.mk v.kind v.n v.name us) hk]
   exact congrArg _ (ih hv.kids)
 | nil=>exact fun _=>rfl
 | cons _ _ ih1 ih2=>
  intro ho
  rw [bH] at ho
  rw [sbL,sbL,ih1 ho.1,ih2 ho.2]
mutual
theorem pF {N:Nat} {σ τ:Int->T} (h:∀ n:Int,0<=n->n<N->σ n=τ n):∀ t:T,okU N t->sbT σ t=sbT τ t
 | .mk k n s ks,ho=>by
  rw [okU] at ho
  rw [sbT,sbT]
  by_cases hk:k=1
  ·obtain ⟨h0,h1,_⟩:=ho.2.1 hk
   rw [if_pos hk,if_pos hk,h n h0 h1]
  ·rw [if_neg hk,if_neg hk,kZ h ks ho.2.2.1]
theorem kZ {N:Nat} {σ τ:Int->T} (h:∀ n:Int,0<=n->n<N->σ n=τ n):∀ ts:List T,bH N ts->sbL σ ts=sbL τ ts
 | [],_=>rfl
 | t::ts,ho=>by
  rw [bH] at ho
  rw [sbL,sbL,pF h t ho.1,kZ h ts ho.2]
end
theorem Hl {N:Nat} {st:ag} (hg:Good N st) {σ τ:Int->T} (h:∀ n:Int,0<=n->n<N->σ n=τ n) (hs:lw σ st):lw τ st:=by
 intro n u hn
 have hlt:=(List.getElem?_eq_some_iff.1 hn).1
 have hl:=hg.len
 rw [<- h n (by omega) (by omega),hs n u hn]
 exact pF h u (hg.ok u (List.mem_of_getElem? hn))
mutual
theorem vk (σ:Int->T) (m:Int):∀ t:T,sbT σ (bv m t)=sbT (fun n=>σ (n+m)) t
 | .mk k n s ks=>by
  rw [bv,sbT,sbT]
  by_cases hk:k=1
  ·rw [if_pos hk,if_pos hk,if_pos hk]
  ·rw [if_neg hk,if_neg hk,if_neg hk,ul σ m ks]
theorem ul (σ:Int->T) (m:Int):∀ ts:List T,sbL σ (ek m ts)=sbL (fun n=>σ (n+m)) ts
 | []=>rfl
 | t::ts=>by rw [ek,sbL,sbL,vk σ m t,ul σ m ts]
end
theorem BW (σ:Int->T) (st:ag) (k:Nat):lw σ (st++List.replicate k none)↔lw σ st:=by
 constructor
 ·intro h n u hn
  exact h n u (by rw [List.getElem?_append_left (List.getElem?_eq_some_iff.1 hn).1]; exact hn)
 ·intro h n u hn
  rw [List.getElem?_append] at hn
  split at hn
  ·exact h n u hn
  ·rw [List.getElem?_replicate] at hn
   split at hn <;> cases hn
def Bt (N:Nat) (σ τ:Int->T):Int->T:=fun n=>if n<N then σ n else τ (n - N)
theorem NU {N:Nat} (σ τ:Int->T):∀ n:Int,0<=n->n<N->σ n=Bt N σ τ n:=fun n _ h=>by rw [Bt,if_pos h]
theorem NF {N M:Nat} (σ τ:Int->T) {t:T} (ht:okU M t):sbT (Bt N σ τ) (bv N t)=sbT τ t:=by
 rw [vk]
 refine pF (N:=M) (fun n h0 _=>?_) t ht
 rw [Bt,if_neg (by omega)]
 congr 1
 omega
end
section
open Go Go.RowKit
structure HdP (R:T->Prop):Prop where
 hd:∀ t u,R t->sameHd t u->R u
 three:∀ t,R t->t.kind=3
structure Nc (R:T->Prop) (s:SI):Prop where
 goals:∀ g∈s.goals,R g.t
 chs:∀ c∈s.chs,∀ g∈c.rest,R g.t
def ncT (t:T):Prop:=t.kind=3/\dI t=false
theorem ncT.hd {t u:T} (h:ncT t) (hs:sameHd t u):ncT u:=⟨by rw [hs.1]; exact h.1,by rw [y9 hs]; exact h.2⟩
theorem K6:HdP ncT:=⟨fun _ _ h hs=>h.hd hs,fun _ h=>h.1⟩
section
variable {R:T->Prop} (hR:HdP R)
include hR
theorem HdP.shift {t:T} (h:R t) (m:Int):R (bv m t):=hR.hd t _ h (sameHd.shift m t (by have:=hR.three t h; omega))
theorem Jn {p:List C} (hb:∀ cl∈p,∀ b∈cl.body,R b) {cs:List CI} {ns:List NI} {g:T} {a:Int} {rest:List GI} {b:ag} {r:HI} (hr:r.cl∈p) (h1:∀ c∈cs,∀ g∈c.rest,R g.t) (h2:∀ g∈rest,R g.t):Nc R (fO cs ns g a rest b r):=by
 refine ⟨fun x hx=>?_,fun c hc=>?_⟩
 ·have hx':x∈ji r.cl r.by_ cs.length a rest:=hx
  unfold ji at hx'
  rcases List.mem_append.1 hx' with hx'|hx'
  ·obtain ⟨t,ht,rfl⟩:=List.mem_map.1 hx'
   exact hR.shift (hb _ hr t ht) _
  ·exact h2 x hx'
 ·have hc':c∈cs++(if r.l=[] then [] else [(⟨g,a,rest,r.l,b,ns.length⟩:CI)]):=hc
  rcases List.mem_append.1 hc' with hc'|hc'
  ·exact h1 c hc'
  ·split at hc'
   ·cases hc'
   ·rw [List.mem_singleton.1 hc']; exact h2
omit hR in
theorem TryI.mem {p:List C} {g:T} {l:List Int} {st:ag} {o:Option HI} {n:Nat} (h:TryI p g l st o n):∀ r,o=some r->r.cl∈p:=by
 induction h with
 | nil=>intro r h; cases h
 | hit hi _=>intro r h; cases h; exact List.mem_of_getElem? hi
 | miss _ _ _ ih=>exact ih
theorem BackI.nc {p:List C} (hb:∀ cl∈p,∀ b∈cl.body,R b) {cs:List CI} {n:Nat} {ns:List NI} {o:Option SI} (h:BackI p cs n ns o):(∀ c∈cs,∀ g∈c.rest,R g.t)->∀ s,o=some s->Nc R s:=by
 induction h with
 | nil=>intro _ s h; cases h
 | hit ht=>
  intro h1 s h
  cases h
  exact Jn hR hb (ht.mem _ rfl) (fun c hc=>h1 c (List.mem_append_left _ hc)) (h1 _ (by simp))
 | miss ht _ ih=>intro h1; exact ih fun c hc=>h1 c (List.mem_append_left _ hc)
theorem StepI.nc {p:List C} (hb:∀ cl∈p,∀ b∈cl.body,R b) {s:SI} {o:Option SI} {e:Int} {nc:Bool} (h:StepI p nc s o e) (hs:Nc R s):∀ s',o=some s'->Nc R s':=by
 have tl:∀ {g:GI} {gs:List GI},s.goals=g::gs->∀ x∈gs,R x.t:=fun hg x hx=>hs.goals x (by rw [hg]; exact List.mem_cons_of_mem _ hx)
 cases h with
 | large=>intro s' h; cases h
 | noCut=>intro s' h; cases h
 | err=>intro s' h; cases h
 | unknown=>intro s' h; cases h
 | cut hg=>intro s' h; cases h; exact ⟨tl hg,fun c hc=>hs.chs c (List.mem_of_mem_take hc)⟩
 | solved hg=>intro s' h; cases h; exact ⟨tl hg,hs.chs⟩
 | fail hg _ _ _ _ _ ho=>exact ho.nc hR hb hs.chs
 | took hg _ _ _ _ _ hT=>intro s' h; cases h; exact Jn hR hb (hT.mem _ rfl) hs.chs (tl hg)
 | back hg _ _ _ _ _ _ ho=>exact ho.nc hR hb hs.chs
end
theorem RunI.keeps {p:List C} {vars:List Int} {most n:Nat} {s:SI} {out:List (List T)} {r:List (List T) × Int} (h:RunI p vars most n s out r):∀ x∈out,x∈r.1:=by
 induction h with
 | fuel=>exact fun x hx=>hx
 | stop=>exact fun x hx=>hx
 | more=>exact fun x hx=>hx
 | large=>exact fun x hx=>hx
 | step _ _ _ ih=>exact ih
 | last=>exact fun x hx=>List.mem_append_left _ hx
 | next _ _ _ _ _ ih=>exact fun x hx=>ih x (List.mem_append_left _ hx)
end
section
open Go Go.RowKit
section
attribute [local irreducible] Run CondV ai az
noncomputable def checkB (p:List C) (x:PF):Bool:=co p && (O1 x && chkF p x)
end
end
section
open Go Go.RowKit
abbrev OP:List ByteArray:=[nEq,gB,jv]
def dx (t:T):Bool:=cG t || bO t.name OP
def zq (p:List C):Bool:=co p && p.all fun c=>c.body.all dx
theorem OS (σ:Int->T) {t:T} (h:t.kind≠1):sameHd t (sbT σ t):=by
 rw [l4 σ h]
 exact ⟨rfl,rfl,by simp [T.kids,pw]⟩
theorem hY {t u:T} (h:sameHd t u):dx u=dx t:=by
 unfold dx cG
 rw [h.1,h.2.1,h.2.2]
theorem NA {t:T} (h:bB t=true):dl t.name t.kids.length=true:=by
 rw [bB,Bool.and_eq_true] at h
 exact h.2
theorem N9 {t:T} (hg:df t=true) (h:dx t=true):ncT t:=by
 refine ⟨gQ hg,?_⟩
 rw [dx,Bool.or_eq_true] at h
 rcases h with h|h
 ·exact (pK h rfl).1
 ·cases hc:dI t with
  | false=>rfl
  | true=>
   rw [dI,Bool.and_eq_true,Bool.and_eq_true,decide_eq_true_eq,decide_eq_true_eq] at hc
   rw [hc.2.1] at h
   exact absurd h (by decide +kernel)
theorem ON (σ:Int->T) {t:T} (h:t.kind≠1) {i:Nat} (hi:i<t.kids.length):kd (sbT σ t) i=sbT σ (kd t i):=by
 have aux:∀ (ts:List T) (i:Nat),i<ts.length->(sbL σ ts).getD i zT=sbT σ (ts.getD i zT):=by
  intro ts
  induction ts with
  | nil=>intro i hi; simp at hi
  | cons t ts ih=>
   intro i hi
   rw [sbL]
   cases i with
   | zero=>rfl
   | succ i=>simpa using ih i (by simpa using hi)
 rw [l4 σ h]
 exact aux t.kids i hi
theorem PL {t:T} (hn:t.name=nEq) (hb:bB t=true):t.kids.length=2:=by
 have:=NA hb
 rw [hn] at this
 have:=iS (by decide +kernel) this
 omega
theorem blt_eq {t:T} (hn:t.name=nEq):eG t=.uni (kd t 0) (kd t 1):=by
 unfold eG
 rw [hn,if_neg (by decide +kernel),if_neg (by decide +kernel),if_pos rfl]
theorem Nx {t:T} (hn:t.name=gB):eG t=.done 0:=by
 unfold eG
 rw [if_pos hn]
theorem MN {t:T} (hn:t.name=jv):eG t=.done 1:=by
 unfold eG
 rw [hn,if_neg (by decide +kernel),if_pos rfl]
theorem Lf {R:T->Prop} {q:List T} (h:∀ t∈q,R t):Nc R (fg q):=by
 refine ⟨fun g hg=>?_,fun c hc=>by cases hc⟩
 obtain ⟨t,ht,rfl⟩:=List.mem_map.1 hg
 exact h t ht
end
section
open Go Go.RowKit
section
variable {S:ad} {w w0:World} {X:List Nat} {L:List Item} {K:Value->World->Prop}
attribute [local irreducible] Run CondV ai az
theorem QN (h:Inv w0 X L S w) {cs:List Value} {t:T} (hc:RdT S cs t) (hk:∀ v S' w',Ext w0.heap.size X S S'->RdSl S' 4 (RdT S') v [t]->Inv w0 X L S' w'->K v w'):Run Tryz.prog (bo oD 1 [(0,.agg cs.toArray)]) w K:=by
 refine dD h bu (by simp [Value.cells,hc.length]) (by omega) (by omega) fun b w' hI=>?_
 obtain ⟨S1,hI,hE,hb⟩:=hI.pub1
 exact hk _ S1 w' hE (Md hb (hc.mono hE.1)) hI
theorem xD {t:T} {cs:List Value} (h:RdT S cs t):Pure Tryz.prog eE [.agg cs.toArray] S (.bool (!dx t)):=by
 intro w hI
 have h0:=h
 obtain ⟨kv,rfl,_,_,hs,_⟩:=RdT.iff.1 h
 refine ja.2 ?_
 dsimp only[ja,aD]
 refine bt hI fun b1 w' hI=>?_
 have hI:Inv w [] [.blk b1 (.cells #[.int .i64 t.kind,.int .i64 t.n,.string t.name,kv] ab)] S w':=hI
 refine aA hI 0 ac rfl rfl ?_
 refine Run.callPure mv mp hI (kA h0) fun w' hI=>?_
 refine bK ?_
 cases hp:cG t
 ·refine rpG ?_
  refine kG hI (by kernel_rfl) rfl (by omega) fun v S1 w' hE1 hv hI=>?_
  refine ae hI 0 rfl aR aL rfl ?_
  refine Run.callPure dC dz hI (dp t.name hv) fun w' hI=>?_
  refine bK ?_
  refine rpG ?_
  refine gh hI hE1.1 ?_
  have e:((G5 [(0,.string ⟨#[61]⟩),(1,.string ⟨#[116,114,117,101]⟩),(2,.string ⟨#[102,97,105,108]⟩)]).any fun x=>decide (x=t.name))=bO t.name OP:=by
   rw [bO]
   simp only [G5,List.any_cons,List.any_nil,eq_comm]
  rw [dx,hp,Bool.false_or,<- e]
 ·refine rpG ?_
  refine done hI ?_
  rw [dx,hp]
  rfl
theorem zE {α:Type} (f:α->Bool):∀ l:List α,(l.any fun x=>!f x)=!l.all f
 | []=>rfl
 | x::l=>by rw [List.any_cons,List.all_cons,zE f l,Bool.not_and]
theorem wY {c:C} {cs:List Value} {b3:Nat} {E:TypeId} (h:RdC S cs c) (hb:S b3=some (.cells #[.func (.func eE) #[] #[]] E)) :
  Pure Tryz.prog jS [.agg cs.toArray,.pointer (some ⟨b3,0,none⟩)] S (.bool (!c.body.all dx)):=by
 intro w hI
 obtain ⟨hd,kb,rfl,h1,h2⟩:=h
 obtain ⟨kv,rfl,_⟩:=RdT.iff.1 h1
 refine jt.2 ?_
 dsimp only[jt,aX]
 refine bt hI fun b1 w' hI=>?_
 have hI:Inv w [] [.blk b1 (.cells #[.int .i64 c.head.kind,.int .i64 c.head.n,.string c.head.name,kv,kb] af)] S w':=hI
 refine ae hI 0 rfl bb aj rfl ?_
 refine bX (by kernel_rfl) (by rw [hI.cellS hb]; rfl) ?_
 have hcb:Cb Tryz.prog eE _ [] S (fun _:Unit=>[]) (fun _=>True) (fun _ x=>(!dx x,())) (fun v x=>∃ cs,v=.agg cs.toArray/\RdT S cs x) c.body:=
  Cb.pure [] ra rh fun x v hx=>by
   rintro ⟨cs,rfl,hcs⟩ w1 hI
   exact (xD hcs w1 hI).mono fun e w' ⟨he,hI⟩=>⟨_,_,_,he,hI,Ext.refl _ _ _,rfl,rfl,rfl⟩
 refine Run.call0 c8 c9 hI (eU hcb h2 (st:=()) trivial) fun v' I' S' w'=>?_
 rintro ⟨rfl,rfl,rfl⟩ _ hI
 refine done hI ?_
 rw [gI (fun x=>!dx x) c.body,zE]
theorem Bd {p:List C} {u:Value} (h:RdSl S 5 (RdC S) u p):Pure Tryz.prog xB [u] S (.bool (zq p)):=by
 intro w hI
 refine lu.2 ?_
 dsimp only[lu,aD]
 refine aM hI (z:=.nilFunc) (by kernel_rfl) fun b3 w' hI=>?_
 refine cw hI 0 (n:=1) rfl (by decide +kernel) rfl (by simp [Value.cells]) (by simp [Value.cells,Value.oneCell']) fun w' hI=>?_
 have hI:Inv w [] ([]++[.blk b3 (.cells #[.func (.func eE) #[] #[]] tx)]) S w':=hI
 obtain ⟨S1,hI,hE1,hb3⟩:=hI.pub1
 have h:=h.monoC hE1.1
 refine Run.callPure gi fT hI (fi h) fun w' hI=>?_
 cases hv:co p
 ·refine rpG ?_
  refine gh hI hE1.1 ?_
  rw [zq,hv]
  rfl
 refine rpG ?_
 refine jC ?_
 have hcb:Cb Tryz.prog jS _ [.pointer (some ⟨b3,0,none⟩)] S1 (fun _:Unit=>[]) (fun _=>True) (fun _ x=>(!x.body.all dx,())) (fun v x=>∃ cs,v=.agg cs.toArray/\RdC S1 cs x) p:=
  Cb.pure [] qP rB fun x v hx=>by
   rintro ⟨cs,rfl,hcs⟩ w1 hI
   exact (wY hcs hb3 w1 hI).mono fun e w' ⟨he,hI⟩=>⟨_,_,_,he,hI,Ext.refl _ _ _,rfl,rfl,rfl⟩
 refine Run.call0 ft fw hI (gk hcb h (st:=()) trivial) fun v' I' S' w'=>?_
 rintro ⟨rfl,rfl,rfl⟩ _ hI
 refine bK ?_
 rw [gI (fun x:C=>!x.body.all dx) p,zE (fun x:C=>x.body.all dx) p]
 refine rpG ?_
 refine gh hI hE1.1 ?_
 rw [zq,hv,Bool.not_not]
 rfl
end
end
end Go.Proofs.YtgllldjiaglkcaaGreatDoor
