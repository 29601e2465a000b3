/- Two programs whose clauses for each goal that can come up are alike, in order: impl's search goes alike. No program in sight. -/
import Derived.Test.YtgllldjiaglkcaaGreatDoorZMp17
import Derived.Test.YtgllldjiaglkcaaGreatDoorZMp4
import Derived.Test.YtgllldjiaglkcaaGreatDoorZMp10
import Derived.Test.YtgllldjiaglkcaaGreatDoorZMp20
import Derived.Test.YtgllldjiaglkcaaGreatDoorZMp21
import Derived.Test.YtgllldjiaglkcaaGreatDoorZMp23
namespace Go.Proofs.YtgllldjiaglkcaaGreatDoor
section
open Go Go.RowKit
def cls (p:List C) (l:List Int):List (Option C):=l.map fun i=>p[i.toNat]?
def sameHd (t u:T):Prop:=u.kind=t.kind/\u.name=t.name/\u.kids.length=t.kids.length
structure Alk (p s:List C) (R:T->Prop):Prop where
 for_:∀ t,R t->fS t=false->cI t=false->cls p (ku p t)=cls s (ku s t)
 body:∀ t,R t->∀ i∈ku p t,∀ cl,p[i.toNat]?=some cl->∀ b∈cl.body,R b
 hd:∀ t u,R t->sameHd t u->R u
 three:∀ t,R t->t.kind=3
def YS (p:List C) (R:T->Prop) (l:List Int):Prop:=∀ i∈l,∀ cl,p[i.toNat]?=some cl->∀ b∈cl.body,R b
structure aae (p s:List C) (R:T->Prop) (c d:CI):Prop where
 goal:d.goal=c.goal
 node:d.node=c.node
 rest:d.rest=c.rest
 left:cls s d.left=cls p c.left
 binds:d.binds=c.binds
 taken:d.taken=c.taken
 rR:∀ g∈c.rest,R g.t
 lR:YS p R c.left
def simCs (p s:List C) (R:T->Prop) (cs ds:List CI):Prop:=cs.length=ds.length/\∀ i (h:i<cs.length) (h':i<ds.length),aae p s R cs[i] ds[i]
structure WF (p s:List C) (R:T->Prop) (x y:SI):Prop where
 st:y.st=x.st
 goals:y.goals=x.goals
 chs:simCs p s R x.chs y.chs
 nodes:y.nodes.length=x.nodes.length
 gR:∀ g∈x.goals,R g.t
def abW (p s:List C) (R:T->Prop) (o o':Option HI):Prop:=(o=none/\o'=none) ∨ ∃ r r':HI,o=some r/\o'=some r'/\r'.cl=r.cl/\r'.by_=r.by_/\r'.st=r.st/\cls s r'.l=cls p r.l/\YS p R r.l/\∀ b∈r.cl.body,R b
def simO (p s:List C) (R:T->Prop) (o o':Option SI):Prop:=(o=none/\o'=none) ∨ ∃ x y,o=some x/\o'=some y/\WF p s R x y
section
variable {p s:List C} {R:T->Prop}
theorem sameHd.shift (b:Int) (t:T) (h:t.kind≠1):sameHd t (dx b t):=by
 cases t with
 | mk k n m ks=>
  simp only [T.kind] at h
  rw [dx,ah h]
  exact ⟨rfl,rfl,by simp [T.kids,mi]⟩
theorem Ny {st:al} {t u:T} (h:Res st (.one t u)) (h3:t.kind≠1):sameHd t u:=by
 cases h with
 | @one _ v us hw hl=>
  have hv:v=t:=by
   cases hw with
   | stop _=>rfl
   | step hk _=>exact absurd (dr.1 hk).1 h3
  subst hv
  refine ⟨rfl,rfl,?_⟩
  show us.length=v.kids.length
  have:∀ {ts us:List T},Res st (.list ts us)->us.length=ts.length:=by
   intro ts
   induction ts with
   | nil=>intro us h; cases h; rfl
   | cons t ts ih=>intro us h; cases h with|cons _ h=>rw [bw,bw,ih h]
  exact this hl
theorem l6 {l l':List Int} (h:cls s l'=cls p l):l'=[]↔l=[]:=by
 have:=congrArg List.length h
 simp only [cls,kR] at this
 constructor
 ·rintro rfl; exact gO (by simpa using this.symm)
 ·rintro rfl; exact gO (by simpa using this)
theorem TryI.sim {g:T} {l:List Int} {st:al} {o:Option HI} {n:Nat} (h:TryI p g l st o n):∀ l',cls s l'=cls p l->YS p R l->(∀ i∈l',0<=i)->∃ o',TryI s g l' st o' n/\abW p s R o o':=by
 induction h with
 | nil=>
  intro l' hl _ _
  obtain rfl:=(l6 hl).2 rfl
  exact ⟨none,.nil,.inl ⟨rfl,rfl⟩⟩
 | @hit i l cl st st' hi hu=>
  intro l' hl hok hl0
  cases l' with
  | nil=>simp [cls] at hl
  | cons j l'=>
   obtain ⟨k,rfl⟩:∃ k:Nat,j=(k:Int):=⟨j.toNat,by have:=hl0 j (by simp); omega⟩
   simp only [cls,AE,lE,dv] at hl
   rw [hi] at hl
   exact ⟨_,.hit hl.1 hu,.inr ⟨_,_,rfl,rfl,rfl,rfl,rfl,hl.2,fun x hx=>hok x (aV _ hx),hok i (aS ..) cl (by rw [dv]; exact hi)⟩⟩
 | @miss i l cl st st' o n hi hu _ ih=>
  intro l' hl hok hl0
  cases l' with
  | nil=>simp [cls] at hl
  | cons j l'=>
   obtain ⟨k,rfl⟩:∃ k:Nat,j=(k:Int):=⟨j.toNat,by have:=hl0 j (by simp); omega⟩
   simp only [cls,AE,lE,dv] at hl
   rw [hi] at hl
   obtain ⟨o',h1,h2⟩:=ih l' hl.2 (fun x hx=>hok x (aV _ hx)) fun x hx=>hl0 x (aV _ hx)
   exact ⟨o',.miss hl.1 hu h1,h2⟩
theorem simCs.snoc {cs ds:List CI} {c d:CI} (h:simCs p s R cs ds) (hc:aae p s R c d):simCs p s R (cs++[c]) (ds++[d]):=by
 refine ⟨by simp [h.1],fun i hi hi'=>?_⟩
 by_cases hic:i<cs.length
 ·rw [gJ hic,gJ (h:=by have:=h.1; omega)]
  exact h.2 i hic _
 ·rw [bA,bw,bU] at hi
  have h1:=h.1
  obtain rfl:i=cs.length:=by omega
  rw [gd (aW _),gd (by omega)]
  simpa [h1] using hc
theorem simCs.last {cs ds:List CI} {c d:CI} (h:simCs p s R (cs++[c]) (ds++[d])):simCs p s R cs ds/\aae p s R c d:=by
 have h1:cs.length=ds.length:=by have:=h.1; simpa using this
 refine ⟨⟨h1,fun i hi hi'=>?_⟩,?_⟩
 ·have:=h.2 i (by rw [bA]; omega) (by rw [bA]; omega)
  rwa [gJ hi,gJ hi'] at this
 ·have:=h.2 cs.length (by simp) (by simp [h1])
  rw [gd (aW _),gd (by omega)] at this
  simpa [h1] using this
theorem NV (hR:Alk p s R) {cs ds:List CI} {ns ms:List NI} {g:T} {a:Int} {rest:List GI} {b:al} {r r':HI} (hcs:simCs p s R cs ds) (hn:ms.length=ns.length) (hr:∀ x∈rest,R x.t)
  (hh:r'.cl=r.cl/\r'.by_=r.by_/\r'.st=r.st/\cls s r'.l=cls p r.l/\YS p R r.l/\∀ b∈r.cl.body,R b):WF p s R (kX cs ns g a rest b r) (kX ds ms g a rest b r'):=by
 obtain ⟨h1,h2,h3,h4,h5,h6⟩:=hh
 refine ⟨h3,?_,?_,?_,?_⟩
 ·show nX r'.cl r'.by_ ds.length a rest=nX r.cl r.by_ cs.length a rest
  rw [h1,h2,hcs.1]
 ·show simCs p s R (cs++(if r.l=[] then [] else [⟨g,a,rest,r.l,b,ns.length⟩])) (ds++(if r'.l=[] then [] else [⟨g,a,rest,r'.l,b,ms.length⟩]))
  by_cases hl:r.l=[]
  ·rw [ai hl,ai ((l6 h4).2 hl),dh,dh]; exact hcs
  ·rw [ah hl,ah (fun e=>hl ((l6 h4).1 e))]
   exact hcs.snoc ⟨rfl,rfl,rfl,h4,rfl,hn,hr,h5⟩
 ·show (setN ms a.toNat r'.i).length=(setN ns a.toNat r.i).length
  rw [pd,pd,hn]
 ·intro x hx
  have hx':x∈nX r.cl r.by_ cs.length a rest:=hx
  unfold nX at hx'
  rcases bO.1 hx' with hx'|hx'
  ·obtain ⟨t,ht,rfl⟩:=eU.1 hx'
   have h3:=hR.three t (h6 t ht)
   exact hR.hd t _ (h6 t ht) (sameHd.shift _ t (by omega))
  ·exact hr x hx'
theorem BackI.sim (hR:Alk p s R) {cs:List CI} {n:Nat} {ns:List NI} {o:Option SI} (h:BackI p cs n ns o):∀ ds ms,simCs p s R cs ds->ms.length=ns.length->(∀ d∈ds,∀ i∈d.left,0<=i)->∃ o',BackI s ds n ms o'/\simO p s R o o':=by
 induction h with
 | nil=>
  intro ds ms hd _ _
  obtain rfl:ds=[]:=gO (by simpa using hd.1.symm)
  exact ⟨none,.nil,.inl ⟨rfl,rfl⟩⟩
 | @hit cs c n m ns r ht=>
  intro ds ms hd hn h0
  obtain ⟨ds',d,rfl⟩:∃ ds' d,ds=ds'++[d]:=⟨ds.dropLast,ds.getLast (by intro e; rw [e] at hd; simp [simCs] at hd),(Uc _).symm⟩
  obtain ⟨h1,h2⟩:=hd.last
  obtain ⟨o',q1,q2⟩:=ht.sim (s:=s) (R:=R) d.left h2.left h2.lR (h0 d (by simp))
  rcases q2 with ⟨q,_⟩|⟨r1,r',e1,rfl,hh⟩
  ·cases q
  simp only [bg] at e1
  subst e1
  have q1:TryI s d.goal d.left (cF d.binds n) (some r') m:=by rw [h2.goal,h2.binds]; exact q1
  refine ⟨_,.hit q1,.inr ⟨_,_,rfl,rfl,?_⟩⟩
  rw [h2.goal,h2.node,h2.rest,h2.binds,h2.taken]
  exact NV hR h1 (by rw [dX,dX,hn]) h2.rR hh
 | @miss cs c n m ns o ht _ ih=>
  intro ds ms hd hn h0
  obtain ⟨ds',d,rfl⟩:∃ ds' d,ds=ds'++[d]:=⟨ds.dropLast,ds.getLast (by intro e; rw [e] at hd; simp [simCs] at hd),(Uc _).symm⟩
  obtain ⟨h1,h2⟩:=hd.last
  obtain ⟨o',q1,q2⟩:=ht.sim (s:=s) (R:=R) d.left h2.left h2.lR (h0 d (by simp))
  rcases q2 with ⟨_,rfl⟩|⟨r1,r',e1,_⟩
  ·have q1:TryI s d.goal d.left (cF d.binds n) none m:=by rw [h2.goal,h2.binds]; exact q1
   obtain ⟨o2,k1,k2⟩:=ih ds' (ms.take d.taken) h1 (by rw [dX,dX,hn,h2.taken]) fun x hx=>h0 x (dy _ hx)
   exact ⟨o2,.miss q1 k1,k2⟩
  ·cases e1
theorem simO.isSome {o o':Option SI} (h:simO p s R o o'):o'.isSome=o.isSome:=by
 rcases h with ⟨rfl,rfl⟩|⟨x,y,rfl,rfl,_⟩ <;> rfl
theorem StepI.sim (hR:Alk p s R) {x y:SI} {o:Option SI} {e:Int} (h:StepI p false x o e) (hs:WF p s R x y) (h0:∀ d∈y.chs,∀ i∈d.left,0<=i):∃ o',StepI s false y o' e/\simO p s R o o':=by
 have hst:=hs.st
 have hgo:=hs.goals
 have hgR:=hs.gR
 have nd:∀ z:NI,(y.nodes++[z]).length=(x.nodes++[z]).length:=fun z=>by simp [hs.nodes]
 have hRt:∀ {g:GI} {gs:List GI} {t:T},x.goals=g::gs->Res x.st (.one g.t t)->R t:=fun {g gs t} hg ht=>by
  have h1:=hgR g (by rw [hg]; simp)
  have h3:=hR.three _ h1
  exact hR.hd _ _ h1 (Ny ht (by omega))
 cases h with
 | large hg ht hsm=>exact ⟨none,.large (by rw [hgo]; exact hg) (by rw [hst]; exact ht) hsm,.inl ⟨rfl,rfl⟩⟩
 | noCut _ _ _ _ h=>cases h
 | @cut g gs t hg ht hsm hc hnc=>
  refine ⟨_,.cut (by rw [hgo]; exact hg) (by rw [hst]; exact ht) hsm hc rfl,.inr ⟨_,_,rfl,rfl,hst,rfl,?_,nd _,fun z hz=>hgR z (by rw [hg]; exact aV _ hz)⟩⟩
  refine ⟨by rw [dX,dX,hs.chs.1],fun i hi hi'=>?_⟩
  rw [dX] at hi hi'
  rw [Fu,Fu]
  exact hs.chs.2 i (by omega) (by omega)
 | @solved g gs t st hg ht hsm hc hb hB=>
  exact ⟨_,.solved (by rw [hgo]; exact hg) (by rw [hst]; exact ht) hsm hc hb (by rw [hst]; exact hB),.inr ⟨_,_,rfl,rfl,rfl,rfl,hs.chs,nd _,fun z hz=>hgR z (by rw [hg]; exact aV _ hz)⟩⟩
 | @fail g gs t st o hg ht hsm hc hb hB ho=>
  obtain ⟨o',k1,k2⟩:=ho.sim hR y.chs _ hs.chs (nd ⟨t,g.up,-1⟩) h0
  rw [<- k2.isSome]
  exact ⟨o',.fail (by rw [hgo]; exact hg) (by rw [hst]; exact ht) hsm hc hb (by rw [hst]; exact hB) (by rw [hst]; exact k1),k2⟩
 | err hg ht hsm hc hb hB h1 h2=>exact ⟨none,.err (by rw [hgo]; exact hg) (by rw [hst]; exact ht) hsm hc hb (by rw [hst]; exact hB) h1 h2,.inl ⟨rfl,rfl⟩⟩
 | unknown hg ht hsm hc hb hf=>
  have hf':=hR.for_ _ (hRt hg ht) hc hb
  exact ⟨none,.unknown (by rw [hgo]; exact hg) (by rw [hst]; exact ht) hsm hc hb ((l6 hf'.symm).2 hf),.inl ⟨rfl,rfl⟩⟩
 | @took g gs t r m hg ht hsm hc hb hf hT=>
  have hRT:=hRt hg ht
  have hf':=hR.for_ _ hRT hc hb
  obtain ⟨o',q1,q2⟩:=hT.sim (s:=s) (R:=R) (ku s t) hf'.symm (hR.body t hRT) fun i hi=>(qQ s t i hi).1
  rcases q2 with ⟨q,_⟩|⟨r1,r',e1,rfl,hh⟩
  ·cases q
  simp only [bg] at e1
  subst e1
  refine ⟨_,.took (by rw [hgo]; exact hg) (by rw [hst]; exact ht) hsm hc hb (fun e=>hf ((l6 hf'.symm).1 e)) (by rw [hst]; exact q1),.inr ⟨_,_,rfl,rfl,?_⟩⟩
  rw [hst,hs.nodes]
  exact NV hR hs.chs (nd _) (fun z hz=>hgR z (by rw [hg]; exact aV _ hz)) hh
 | @back g gs t m o hg ht hsm hc hb hf hT ho=>
  have hRT:=hRt hg ht
  have hf':=hR.for_ _ hRT hc hb
  obtain ⟨o',q1,q2⟩:=hT.sim (s:=s) (R:=R) (ku s t) hf'.symm (hR.body t hRT) fun i hi=>(qQ s t i hi).1
  rcases q2 with ⟨_,rfl⟩|⟨r1,r',e1,_⟩
  ·obtain ⟨o2,k1,k2⟩:=ho.sim hR y.chs _ hs.chs (nd ⟨t,g.up,-1⟩) h0
   rw [<- k2.isSome]
   exact ⟨o2,.back (by rw [hgo]; exact hg) (by rw [hst]; exact ht) hsm hc hb (fun e=>hf ((l6 hf'.symm).1 e)) (by rw [hst]; exact q1) k1,k2⟩
  ·cases e1
theorem okCs.pos {m n k:Nat} {cs:List CI} (h:okCs m n k cs):∀ d∈cs,∀ i∈d.left,0<=i:=fun d hd i hi=>by
 obtain ⟨j,hj,rfl⟩:=zo hd
 exact ((h.at_ j hj).1.left i hi).1
theorem RunI.sim (hR:Alk p s R) (hp:∀ cl∈p,oP cl) (hq:∀ cl∈s,oP cl) {vars:List Int} {most n:Nat} {x:SI} {out:List (List T)} {r:List (List T) × Int} (h:RunI p vars most n x out r):∀ y,WF p s R x y->xR p.length x->xR s.length y->RunI s vars most n y out r:=by
 induction h with
 | fuel hg=>intro y hs _ _; exact .fuel (by rw [hs.goals]; exact hg)
 | stop hg hst=>
  intro y hs _ hy
  obtain ⟨o',k1,k2⟩:=hst.sim hR hs hy.chs.pos
  rcases k2 with ⟨_,rfl⟩|⟨_,_,e,_⟩
  ·exact .stop (by rw [hs.goals]; exact hg) k1
  ·cases e
 | step hg hst _ ih=>
  intro y hs hx hy
  obtain ⟨o',k1,k2⟩:=hst.sim hR hs hy.chs.pos
  rcases k2 with ⟨e,_⟩|⟨x',y',e,rfl,hs'⟩
  ·cases e
  simp only [bg] at e
  subst e
  exact .step (by rw [hs.goals]; exact hg) k1 (ih y' hs' (hst.ok hp hx _ rfl).1 (k1.ok hq hy _ rfl).1)
 | more hg hm=>intro y hs _ _; exact .more (by rw [hs.goals]; exact hg) hm
 | large hg hm hv=>intro y hs _ _; exact .large (by rw [hs.goals]; exact hg) hm (by rw [hs.st]; exact hv)
 | last hg hm hv hb=>
  intro y hs _ hy
  obtain ⟨o',k1,k2⟩:=hb.sim hR y.chs y.nodes hs.chs hs.nodes hy.chs.pos
  rcases k2 with ⟨_,rfl⟩|⟨_,_,e,_⟩
  ·exact .last (by rw [hs.goals]; exact hg) hm (by rw [hs.st]; exact hv) (by rw [hs.st]; exact k1)
  ·cases e
 | next hg hm hv hb _ ih=>
  intro y hs hx hy
  obtain ⟨o',k1,k2⟩:=hb.sim hR y.chs y.nodes hs.chs hs.nodes hy.chs.pos
  rcases k2 with ⟨e,_⟩|⟨x',y',e,rfl,hs'⟩
  ·cases e
  simp only [bg] at e
  subst e
  refine .next (by rw [hs.goals]; exact hg) hm (by rw [hs.st]; exact hv) (by rw [hs.st]; exact k1) (ih y' hs' (hb.ok hp hx.chs _ rfl).1 ?_)
  have hyc:=hy.chs
  rw [hs.st] at hyc
  exact (k1.ok hq hyc _ rfl).1
end
end
section
open Go Go.RowKit
attribute [local irreducible] Run CondV az aO

def isP (x:Pd) (c:C):Bool:=o9 (dk c.head) x
def ge (p:List C) (x:Pd):List C:=(p.filter fun c=>!isP x c)++p.filter (isP x)
def rf (p:List C) (x:Pd):List C:=if de p=true then ge p x else []
theorem PR (p:List C) (x:Pd):(ge p x).length+wP (ge p x)=p.length+wP p:=by
 have:=JZ (isP x) p
 rw [ge,Ka,bA]
 omega
end
section
open Go Go.RowKit
attribute [local irreducible] Run CondV az aO

def inP (l:List Pd) (c:C):Bool:=HJ l (dk c.head)
def Ui (p:List C) (q:List T):List C:=if (de p && eN q)=true then p.filter (inP (wU p (iD [] q))) else []
end
section
open Go Go.RowKit

theorem HZ {l:List Pd} {x:Pd}:HJ l x=true↔x∈l:=by
 simp [HJ,o4]
theorem HF {l:List Pd} {x y:Pd}:y∈mW l x↔y∈l ∨ y=x:=by
 unfold mW
 split
 ·rename_i h
  rw [HZ] at h
  exact ⟨.inl,fun h'=>h'.elim id fun e=>e ▸ h⟩
 ·simp
theorem LS {l:List Pd} {x:Pd} (h:l.Nodup):(mW l x).Nodup:=by
 unfold mW
 split
 ·exact h
 ·rename_i hx
  rw [HZ] at hx
  rw [rc]
  refine ⟨h,by simp,fun a ha b hb e=>?_⟩
  simp at hb
  subst hb
  subst e
  exact hx ha
theorem Wn (l:List Pd) (x:Pd):∃ s,mW l x=l++s:=by
 unfold mW
 split
 ·exact ⟨[],by simp⟩
 ·exact ⟨[x],rfl⟩
theorem wS:∀ (ts:List T) (l:List Pd) (y:Pd),y∈iD l ts↔y∈l ∨ ∃ t∈ts,cD t=true/\dk t=y
 | [],l,y=>by simp [iD]
 | t::ts,l,y=>by
  have e:iD l (t::ts)=iD (if cD t=true then mW l (dk t) else l) ts:=rfl
  rw [e,wS ts]
  split
  ·rename_i h
   rw [HF]
   constructor
   ·rintro ((h1|h1)|⟨u,h1,h2⟩)
    ·exact .inl h1
    ·exact .inr ⟨t,aS ..,h,h1.symm⟩
    ·exact .inr ⟨u,aV _ h1,h2⟩
   ·rintro (h1|⟨u,h1,h2,h3⟩)
    ·exact .inl (.inl h1)
    ·rcases bN.1 h1 with rfl|h1
     ·exact .inl (.inr h3.symm)
     ·exact .inr ⟨u,h1,h2,h3⟩
  ·rename_i h
   constructor
   ·rintro (h1|⟨u,h1,h2⟩)
    ·exact .inl h1
    ·exact .inr ⟨u,aV _ h1,h2⟩
   ·rintro (h1|⟨u,h1,h2,h3⟩)
    ·exact .inl h1
    ·rcases bN.1 h1 with rfl|h1
     ·exact absurd h2 h
     ·exact .inr ⟨u,h1,h2,h3⟩
theorem Kn:∀ (ts:List T) (l:List Pd),l.Nodup->(iD l ts).Nodup
 | [],l,h=>h
 | t::ts,l,h=>by
  have e:iD l (t::ts)=iD (if cD t=true then mW l (dk t) else l) ts:=rfl
  rw [e]
  refine Kn ts _ ?_
  split
  ·exact LS h
  ·exact h
theorem wK (x:Pd):∀ (p:List C) (l:List Pd) (y:Pd),y∈jf l p x↔y∈l ∨ ∃ c∈p,dk c.head=x/\∃ t∈c.body,cD t=true/\dk t=y
 | [],l,y=>by simp [jf]
 | c::p,l,y=>by
  have e:jf l (c::p) x=jf (if o9 (dk c.head) x=true then iD l c.body else l) p x:=rfl
  rw [e,wK x p]
  split
  ·rename_i h
   rw [o4,bk] at h
   rw [wS]
   constructor
   ·rintro ((h1|h1)|⟨u,h1,h2⟩)
    ·exact .inl h1
    ·exact .inr ⟨c,aS ..,h,h1⟩
    ·exact .inr ⟨u,aV _ h1,h2⟩
   ·rintro (h1|⟨u,h1,h2,h3⟩)
    ·exact .inl (.inl h1)
    ·rcases bN.1 h1 with rfl|h1
     ·exact .inl (.inr h3)
     ·exact .inr ⟨u,h1,h2,h3⟩
  ·rename_i h
   rw [o4,bk] at h
   constructor
   ·rintro (h1|⟨u,h1,h2⟩)
    ·exact .inl h1
    ·exact .inr ⟨u,aV _ h1,h2⟩
   ·rintro (h1|⟨u,h1,h2,h3⟩)
    ·exact .inl h1
    ·rcases bN.1 h1 with rfl|h1
     ·exact absurd h2 h
     ·exact .inr ⟨u,h1,h2,h3⟩
theorem RJ {p:List C} {x y:Pd}:y∈jG p x↔∃ c∈p,dk c.head=x/\∃ t∈c.body,cD t=true/\dk t=y:=by
 rw [jG,wK]
 simp
theorem oS:∀ (p:List C) (l:List Pd) (y:Pd),y∈gz l p↔y∈l ∨ ∃ c∈p,dk c.head=y
 | [],l,y=>by simp [gz]
 | c::p,l,y=>by
  have e:gz l (c::p)=gz (mW l (dk c.head)) p:=rfl
  rw [e,oS p,HF]
  constructor
  ·rintro ((h1|h1)|⟨u,h1,h2⟩)
   ·exact .inl h1
   ·exact .inr ⟨c,aS ..,h1.symm⟩
   ·exact .inr ⟨u,aV _ h1,h2⟩
  ·rintro (h1|⟨u,h1,h2⟩)
   ·exact .inl (.inl h1)
   ·rcases bN.1 h1 with rfl|h1
    ·exact .inl (.inr h2.symm)
    ·exact .inr ⟨u,h1,h2⟩
theorem qS:∀ (p:List C) (l:List Pd),l.Nodup->(gz l p).Nodup
 | [],l,h=>h
 | c::p,l,h=>by
  have e:gz l (c::p)=gz (mW l (dk c.head)) p:=rfl
  rw [e]
  exact qS p _ (LS h)
theorem GB {α:Type} [DecidableEq α]:∀ {l m:List α},l.Nodup->(∀ x∈l,x∈m)->l.length<=m.length
 | [],_,_,_=>be _
 | x::l,m,h,hs=>by
  rw [Be] at h
  have hx:=hs x (aS ..)
  have h1:=GB (l:=l) (m:=m.erase x) h.2 fun y hy=>by
   have hne:y≠x:=fun e=>h.1 (e ▸ hy)
   exact (List.mem_erase_of_ne hne).2 (hs y (aV _ hy))
  rw [List.length_erase_of_mem hx] at h1
  have:0<m.length:=List.length_pos_of_mem hx
  rw [bw]
  omega

inductive Star (p:List C) (x:Pd):Pd->Prop
 | refl:Star p x x
 | step {y z:Pd}:Star p x y->z∈jG p y->Star p x z
theorem Star.trans {p:List C} {x y z:Pd} (h:Star p x y) (h':Star p y z):Star p x z:=by
 induction h' with
 | refl=>exact h
 | step _ hz ih=>exact .step ih hz
theorem qM:∀ (m l:List Pd) (y:Pd),y∈hY l m↔y∈l ∨ y∈m
 | [],l,y=>by simp [hY]
 | x::m,l,y=>by
  have e:hY l (x::m)=hY (mW l x) m:=rfl
  rw [e,qM m,HF,bN]
  constructor
  ·rintro ((h|h)|h)
   ·exact .inl h
   ·exact .inr (.inl h)
   ·exact .inr (.inr h)
  ·rintro (h|h|h)
   ·exact .inl (.inl h)
   ·exact .inl (.inr h)
   ·exact .inr h
theorem Ke:∀ (m l:List Pd),l.Nodup->(hY l m).Nodup
 | [],_,h=>h
 | _::m,_,h=>Ke m _ (LS h)
theorem FR:∀ (m l:List Pd),∃ s,hY l m=l++s
 | [],l=>⟨[],by simp [hY]⟩
 | x::m,l=>by
  obtain ⟨s,hs⟩:=Wn l x
  obtain ⟨s',hs'⟩:=FR m (mW l x)
  have e:hY l (x::m)=hY (mW l x) m:=rfl
  exact ⟨s++s',by rw [e,hs',hs,eK]⟩
theorem G6 {G:List Pd}:∀ (m l:List Pd),(∀ x∈m,x∈G)->(hY l m).length+pot G (hY l m)<=l.length+pot G l
 | [],l,_=>aW _
 | x::m,l,h=>by
  have e:hY l (x::m)=hY (mW l x) m:=rfl
  have h1:=G6 m (mW l x) fun y hy=>h y (aV _ hy)
  have h2:=WC (l:=l) (h x (aS ..))
  rw [e]
  omega
theorem Dc (p:List C):∀ (n:Nat) (l:List Pd) (i:Nat),l.length+pot (gPs p) l<=n+i->(∀ j (h:j<l.length),j<i->∀ z∈jG p l[j],z∈l)->l.Nodup->
  (qw n p l i).Nodup/\(∀ y∈qw n p l i,∃ x∈l,Star p x y)/\(∀ x∈l,x∈qw n p l i)/\∀ y∈qw n p l i,∀ z∈jG p y,z∈qw n p l i
 | 0,l,i,hn,hc,hd=>by
  simp only [qw]
  refine ⟨hd,fun y hy=>⟨y,hy,.refl⟩,fun x hx=>hx,fun y hy z hz=>?_⟩
  obtain ⟨j,hj,rfl⟩:=BW.1 hy
  exact hc j hj (by omega) z hz
 | n+1,l,i,hn,hc,hd=>by
  rw [qw]
  split
  ·rename_i hi
   have hp:=G6 (G:=gPs p) (jG p l[i]) l fun x hx=>SV hx
   obtain ⟨s,hs⟩:=FR (jG p l[i]) l
   obtain ⟨h1,h2,h3,h4⟩:=Dc p n (hY l (jG p l[i])) (i+1) (by omega) (fun j hj hji z hz=>by
    rw [qM]
    have hjl:j<l.length:=by omega
    have ej:(hY l (jG p l[i]))[j]=l[j]:=by
     have:(hY l (jG p l[i]))[j]?=l[j]?:=by rw [hs,z0 hjl]
     rw [gL hj,gL hjl] at this
     exact Hj this
    rw [ej] at hz
    by_cases e:j=i
    ·subst e; exact .inr hz
    ·exact .inl (hc j hjl (by omega) z hz)) (Ke _ _ hd)
   refine ⟨h1,fun y hy=>?_,fun x hx=>h3 x ((qM _ _ _).2 (.inl hx)),h4⟩
   obtain ⟨x,hx,hxy⟩:=h2 y hy
   rcases (qM _ _ _).1 hx with hx|hx
   ·exact ⟨x,hx,hxy⟩
   ·exact ⟨l[i],bz hi,Star.trans (.step .refl hx) hxy⟩
  ·refine ⟨hd,fun y hy=>⟨y,hy,.refl⟩,fun x hx=>hx,fun y hy z hz=>?_⟩
   obtain ⟨j,hj,rfl⟩:=BW.1 hy
   exact hc j hj (by omega) z hz
theorem DT (p:List C) {l:List Pd} (hd:l.Nodup):(wU p l).Nodup/\(∀ y,y∈wU p l↔∃ x∈l,Star p x y)/\∀ y∈wU p l,∀ z∈jG p y,z∈wU p l:=by
 obtain ⟨h1,h2,h3,h4⟩:=Dc p (l.length+(gPs p).length) l 0 (by have:=ZM (gPs p) l; omega) (fun j _ h=>by omega) hd
 refine ⟨h1,fun y=>⟨h2 y,?_⟩,h4⟩
 rintro ⟨x,hx,hs⟩
 induction hs with
 | refl=>exact h3 x hx
 | step _ hz ih=>exact h4 _ ih _ hz
theorem SH {p:List C} {l:List Pd} (hd:l.Nodup) {y:Pd}:y∈wU p l↔∃ x∈l,Star p x y:=(DT p hd).2.1 y

theorem Nn (p:List C) (x:Pd):ge (ge p x) x=ge p x:=by
 simp only [ge,List.filter_append,T2]
 have h1:(p.filter fun a=>(!isP x a) && isP x a)=[]:=by
  rw [TF]; intro c _; cases isP x c <;> simp
 have h2:(p.filter fun a=>isP x a && !isP x a)=[]:=by
  rw [TF]; intro c _; cases isP x c <;> simp
 simp only [Bool.and_self,h1,h2,dh,rg]
theorem GG {p:List C} {x:Pd} {c:C}:c∈ge p x↔c∈p:=by
 simp only [ge,bO,List.mem_filter]
 cases isP x c <;> simp
theorem So (p:List C) (x:Pd):(ge p x).length=p.length:=by
 have:=PR p x
 simp only [ge,bA]
 induction p with
 | nil=>rfl
 | cons c p ih=>
  have ih:=ih (PR p x)
  rw [uO,uO]
  cases isP x c <;> simp <;> omega
theorem OZ {p:List C} (h:de p=true) (x:Pd):de (ge p x)=true:=by
 rw [de,bu,dE,bk] at h ⊢
 exact ⟨by rw [So]; exact h.1,fun c hc=>h.2 c (GG.1 hc)⟩
theorem My {p:List C} (h:de p=true) (x:Pd):rf (rf p x) x=rf p x/\de (rf p x)=true/\(Fb (rf p x)).length=(Fb p).length:=by
 have h2:=OZ h x
 have e:rf p x=ge p x:=ai h
 refine ⟨by rw [e,rf,ai h2,Nn],by rw [e]; exact h2,?_⟩
 rw [e,Fb,Fb,ai h,ai h2]
 have hm:∀ y,y∈gz [] (ge p x)↔y∈gz [] p:=fun y=>by
  rw [oS,oS]
  simp only [GG]
 exact Nat.le_antisymm (GB (qS _ _ Ly) fun y hy=>(hm y).1 hy) (GB (qS _ _ Ly) fun y hy=>(hm y).2 hy)
end
section
open Go Go.RowKit
theorem yv {x y:Pd}:o9 x y=true↔x=y:=by rw [o4,bk]
theorem Kb (f:C->Bool) (P:List C):∀ (p pre:List C),P=pre++p->(jn f p pre.length).map (fun i=>P[i.toNat]?)=(p.filter f).map some
 | [],pre,_=>by simp [jn]
 | c::p,pre,h=>by
  have ih:=Kb f P p (pre++[c]) (by rw [h]; simp)
  rw [bA,bw,bU] at ih
  have hc:P[pre.length]?=some c:=by rw [h]; simp
  rw [jn]
  split
  ·rename_i hf
   rw [List.filter_cons_of_pos hf,AE,AE,dv,hc,ih]
  ·rename_i hf
   rw [List.filter_cons_of_neg hf,ih]
theorem Ar (p:List C) (t:T):cls p (ku p t)=(p.filter fun c=>o9 (dk c.head) (dk t)).map some:=Kb _ p p [] rfl
theorem O0 {t u:T} (h:sameHd t u):dk u=dk t:=by
 unfold dk
 rw [h.2.1,h.2.2]
theorem xT {t u:T} (h:sameHd t u):fS u=fS t:=by
 unfold fS
 rw [h.1,h.2.1,h.2.2]
theorem zO {t u:T} (h:sameHd t u):cI u=cI t:=by
 unfold cI
 rw [h.1,h.2.1,h.2.2]
theorem KR {p:List C} {t:T} {i:Int} (hi:i∈ku p t) {cl:C} (hcl:p[i.toNat]?=some cl):cl∈p/\dk cl.head=dk t:=by
 obtain ⟨j,_,hj,hlt,hf⟩:=FZ _ p 0 i hi
 have:i.toNat=j:=by omega
 rw [this,gL hlt] at hcl
 cases hcl
 exact ⟨bz hlt,yv.1 hf⟩
theorem qU {t:T} (h:eq t=true):t.kind=3:=of_decide_eq_true (US h)
theorem K2 {p:List C} (h:de p=true) {cl:C} (hc:cl∈p) {b:T} (hb:b∈cl.body):eq b=true:=by
 rw [de,bu,dE] at h
 have:=h.2 cl hc
 rw [bK,bu,bu,dE] at this
 exact this.2.1 b hb
theorem Vk {p s:List C} {R:T->Prop} {q:List T} (h:∀ t∈q,R t):WF p s R (ey q) (ey q):=
 ⟨rfl,rfl,⟨rfl,fun i hi=>by simp [ey] at hi⟩,rfl,fun g hg=>by
  obtain ⟨t,ht,rfl⟩:=eU.1 hg
  exact h t ht⟩
theorem SolR.sim {p s:List C} {R:T->Prop} {q:List T} {most fuel:Nat} {r:List (List T) × Int} (hA:Alk p s R) (hp:de p=true) (hs:de s=true) (hq:eN q=true) (hR:∀ t∈q,R t) (h:SolR p q most fuel r):SolR s q most fuel r:=by
 rcases h with ⟨_,h⟩|⟨h,_⟩
 ·exact .inl ⟨by rw [hs,hq]; rfl,h.sim hA (mK hp).1 (mK hs).1 _ (Vk hR) (o5 hq _) (o5 hq _)⟩
 ·rw [hp,hq] at h
  cases h
theorem SolR.bad {p s:List C} {q:List T} {most fuel:Nat} {r:List (List T) × Int} (hp:de p=true) (hs:de s=true) (hq:eN q=false) (h:SolR p q most fuel r):SolR s q most fuel r:=by
 rcases h with ⟨h,_⟩|⟨_,h⟩
 ·rw [hp,hq] at h
  cases h
 ·exact .inr ⟨by rw [hs,hq]; rfl,h⟩
theorem Mg (p:List C) (x:Pd) (f:C->Bool) (h:(∀ c,f c=true->isP x c=true) ∨ (∀ c,f c=true->isP x c=false)):(ge p x).filter f=p.filter f:=by
 unfold ge
 rw [List.filter_append,T2,T2]
 rcases h with h|h
 ·have e1:p.filter (fun c=>f c && !isP x c)=[]:=TF.2 fun c _ hc=>by
   rw [bu] at hc
   rw [h c hc.1] at hc
   exact absurd hc.2 (by decide)
  have e2:p.filter (fun c=>f c && isP x c)=p.filter f:=WD fun c _=>by
   cases hc:f c with
   | false=>rfl
   | true=>rw [h c hc]; rfl
  rw [e1,e2]
  rfl
 ·have e1:p.filter (fun c=>f c && !isP x c)=p.filter f:=WD fun c _=>by
   cases hc:f c with
   | false=>rfl
   | true=>rw [h c hc]; rfl
  have e2:p.filter (fun c=>f c && isP x c)=[]:=TF.2 fun c _ hc=>by
   rw [bu] at hc
   rw [h c hc.1] at hc
   exact absurd hc.2 (by decide)
  rw [e1,e2,dh]
theorem U1 {p:List C} (hp:de p=true) (x:Pd):Alk p (ge p x) fun t=>t.kind=3:=by
 refine ⟨fun t _ _ _=>?_,fun t _ i hi cl hcl b hb=>qU (K2 hp (KR hi hcl).1 hb),fun t u h hs=>by rw [hs.1]; exact h,fun t h=>h⟩
 rw [Ar,Ar,Mg]
 ·by_cases h:dk t=x
  ·left
   intro c hc
   unfold isP
   rw [yv] at hc ⊢
   rw [hc,h]
  ·right
   intro c hc
   rw [yv] at hc
   cases hx:isP x c with
   | false=>rfl
   | true=>
    unfold isP at hx
    rw [yv] at hx
    exact absurd (hc.symm.trans hx) h
theorem SolR.moved {p:List C} {q:List T} {most fuel:Nat} {r:List (List T) × Int} (hp:de p=true) (x:Pd) (h:SolR p q most fuel r):SolR (rf p x) q most fuel r:=by
 have h2:=(My hp x).2.1
 have e:rf p x=ge p x:=ai hp
 rw [e] at h2 ⊢
 cases hq:eN q with
 | false=>exact h.bad hp h2 hq
 | true=>
  refine h.sim (U1 hp x) hp h2 hq fun t ht=>?_
  rw [eN,bu,dE] at hq
  exact qU (hq.2 t ht)
end
section
open Go Go.RowKit
theorem HU {t:T} (h:eq t=true) (hc:fS t=false) (hb:cI t=false):cD t=true:=by
 rw [eq,hc,hb] at h
 simpa using (Bool.and_eq_true_iff.1 h).2
theorem Kk {h t:T} (hp:cD h=true) (he:dk h=dk t):fS t=false/\cI t=false:=by
 have e1:h.name=t.name:=congrArg Pd.name he
 have e2:(h.kids.length:Int)=(t.kids.length:Int):=congrArg Pd.arity he
 rw [cD,bu,bu,bu] at hp
 obtain ⟨_,hw,hb,_⟩:=hp
 rw [e1] at hw
 rw [e1,e2] at hb
 constructor
 ·cases hc:fS t with
  | false=>rfl
  | true=>
   rw [fS,bu,bu] at hc
   have hn:=of_decide_eq_true hc.2.1
   rw [hn] at hw
   exact absurd hw (by decide +kernel)
 ·rw [cI]
  simp only [jj] at hb
  rw [hb,kY]
theorem Sw {p:List C} (h:de p=true) {cl:C} (hc:cl∈p):cD cl.head=true:=by
 rw [de,bu,dE] at h
 have:=h.2 cl hc
 rw [bK,bu,bu,bu] at this
 exact this.2.2.2
abbrev Q0 (p:List C) (q:List T):List Pd:=wU p (iD [] q)
theorem XQ (q:List T):(iD [] q).Nodup:=Kn q [] Ly
theorem XM {p:List C} {q:List T} {x z:Pd} (hx:x∈Q0 p q) (hz:z∈jG p x):z∈Q0 p q:=(DT p (XQ q)).2.2 x hx z hz
theorem XN {p:List C} {q:List T} {t:T} (ht:t∈q) (hp:cD t=true):dk t∈Q0 p q:=
 (SH (XQ q)).2 ⟨dk t,(wS q [] _).2 (.inr ⟨t,ht,hp,rfl⟩),.refl⟩
def slR (p:List C) (q:List T) (t:T):Prop:=t.kind=3/\(fS t=false->cI t=false->dk t∈Q0 p q)
theorem U7 {p:List C} (hp:de p=true) (q:List T):Alk p (p.filter (inP (Q0 p q))) (slR p q):=by
 refine ⟨fun t h hc hb=>?_,fun t h i hi cl hcl b hb=>?_,fun t u h hs=>?_,fun t h=>h.1⟩
 ·rw [Ar,Ar,T2]
  congr 1
  refine WD fun c _=>?_
  cases hf:o9 (dk c.head) (dk t) with
  | false=>rfl
  | true=>
   have hi:inP (Q0 p q) c=true:=by
    rw [inP,HZ,yv.1 hf]
    exact h.2 hc hb
   rw [hi]
   rfl
 ·obtain ⟨hm,he⟩:=KR hi hcl
  obtain ⟨n1,n2⟩:=Kk (Sw hp hm) he
  have hg:=K2 hp hm hb
  refine ⟨qU hg,fun hc hbt=>XM (h.2 n1 n2) (RJ.2 ⟨cl,hm,he,b,hb,HU hg hc hbt,rfl⟩)⟩
 ·refine ⟨by rw [hs.1]; exact h.1,fun hc hb=>?_⟩
  rw [xT hs] at hc
  rw [zO hs] at hb
  rw [O0 hs]
  exact h.2 hc hb
theorem RL {p:List C} (hp:de p=true) (f:C->Bool):de (p.filter f)=true:=by
 rw [de,bu,bk,dE] at hp ⊢
 exact ⟨gX (W3 f p) hp.1,fun c hc=>hp.2 c (List.mem_filter.1 hc).1⟩
theorem SolR.sliced {p:List C} {q:List T} {most fuel:Nat} {r:List (List T) × Int} (hv:(de p && eN q)=true) (h:SolR p q most fuel r):SolR (Ui p q) q most fuel r:=by
 have hv':=hv
 rw [bu] at hv'
 have e:Ui p q=p.filter (inP (Q0 p q)):=ai hv
 rw [e]
 refine h.sim (U7 hv'.1 q) hv'.1 (RL hv'.1 _) hv'.2 fun t ht=>?_
 have hq:=hv'.2
 rw [eN,bu,dE] at hq
 have hg:=hq.2 t ht
 exact ⟨qU hg,fun hc hb=>XN ht (HU hg hc hb)⟩
end
section
open Go Go.RowKit
theorem UB (σ:Int->T) {t:T} (h:t.kind≠1):sbT σ t=.mk t.kind t.n t.name (sbL σ t.kids):=by
 cases t
 rw [sbT]
 exact ah h
end
section
open Go Go.RowKit
structure HdP (R:T->Prop):Prop where
 hd:∀ t u,R t->sameHd t u->R u
 three:∀ t,R t->t.kind=3
structure Nc (R:T->Prop) (s:SI):Prop where
 goals:∀ g∈s.goals,R g.t
 chs:∀ c∈s.chs,∀ g∈c.rest,R g.t
def ncT (t:T):Prop:=t.kind=3/\fS t=false
theorem ncT.hd {t u:T} (h:ncT t) (hs:sameHd t u):ncT u:=⟨by rw [hs.1]; exact h.1,by rw [xT hs]; exact h.2⟩
section
variable {R:T->Prop} (hR:HdP R)
include hR
theorem HdP.shift {t:T} (h:R t) (m:Int):R (dx m t):=hR.hd t _ h (sameHd.shift m t (by have:=hR.three t h; omega))
theorem TG {p:List C} (hb:∀ cl∈p,∀ b∈cl.body,R b) {cs:List CI} {ns:List NI} {g:T} {a:Int} {rest:List GI} {b:al} {r:HI} (hr:r.cl∈p) (h1:∀ c∈cs,∀ g∈c.rest,R g.t) (h2:∀ g∈rest,R g.t):Nc R (kX cs ns g a rest b r):=by
 refine ⟨fun x hx=>?_,fun c hc=>?_⟩
 ·have hx':x∈nX r.cl r.by_ cs.length a rest:=hx
  unfold nX at hx'
  rcases bO.1 hx' with hx'|hx'
  ·obtain ⟨t,ht,rfl⟩:=eU.1 hx'
   exact hR.shift (hb _ hr t ht) _
  ·exact h2 x hx'
 ·have hc':c∈cs++(if r.l=[] then [] else [(⟨g,a,rest,r.l,b,ns.length⟩:CI)]):=hc
  rcases bO.1 hc' with hc'|hc'
  ·exact h1 c hc'
  ·split at hc'
   ·cases hc'
   ·rw [cd.1 hc']; exact h2
omit hR in
theorem TryI.mem {p:List C} {g:T} {l:List Int} {st:al} {o:Option HI} {n:Nat} (h:TryI p g l st o n):∀ r,o=some r->r.cl∈p:=by
 induction h with
 | nil=>intro r h; cases h
 | hit hi _=>intro r h; cases h; exact cz hi
 | miss _ _ _ ih=>exact ih
theorem BackI.nc {p:List C} (hb:∀ cl∈p,∀ b∈cl.body,R b) {cs:List CI} {n:Nat} {ns:List NI} {o:Option SI} (h:BackI p cs n ns o):(∀ c∈cs,∀ g∈c.rest,R g.t)->∀ s,o=some s->Nc R s:=by
 induction h with
 | nil=>intro _ s h; cases h
 | hit ht=>
  intro h1 s h
  cases h
  exact TG hR hb (ht.mem _ rfl) (fun c hc=>h1 c (dy _ hc)) (h1 _ (by simp))
 | miss ht _ ih=>intro h1; exact ih fun c hc=>h1 c (dy _ hc)
theorem StepI.nc {p:List C} (hb:∀ cl∈p,∀ b∈cl.body,R b) {s:SI} {o:Option SI} {e:Int} {nc:Bool} (h:StepI p nc s o e) (hs:Nc R s):∀ s',o=some s'->Nc R s':=by
 have tl:∀ {g:GI} {gs:List GI},s.goals=g::gs->∀ x∈gs,R x.t:=fun hg x hx=>hs.goals x (by rw [hg]; exact aV _ hx)
 cases h with
 | large=>intro s' h; cases h
 | noCut=>intro s' h; cases h
 | err=>intro s' h; cases h
 | unknown=>intro s' h; cases h
 | cut hg=>intro s' h; cases h; exact ⟨tl hg,fun c hc=>hs.chs c (sD hc)⟩
 | solved hg=>intro s' h; cases h; exact ⟨tl hg,hs.chs⟩
 | fail hg _ _ _ _ _ ho=>exact ho.nc hR hb hs.chs
 | took hg _ _ _ _ _ hT=>intro s' h; cases h; exact TG hR hb (hT.mem _ rfl) hs.chs (tl hg)
 | back hg _ _ _ _ _ _ ho=>exact ho.nc hR hb hs.chs
end
theorem RunI.keeps {p:List C} {vars:List Int} {most n:Nat} {s:SI} {out:List (List T)} {r:List (List T) × Int} (h:RunI p vars most n s out r):∀ x∈out,x∈r.1:=by
 induction h with
 | fuel=>exact fun x hx=>hx
 | stop=>exact fun x hx=>hx
 | more=>exact fun x hx=>hx
 | large=>exact fun x hx=>hx
 | step _ _ _ ih=>exact ih
 | last=>exact fun x hx=>dy _ hx
 | next _ _ _ _ _ ih=>exact fun x hx=>ih x (dy _ hx)
end
section
open Go Go.RowKit
theorem blt_eq {t:T} (hn:t.name=nEq):i6 t=.uni (kd t 0) (kd t 1):=by
 unfold i6
 rw [hn,ah (by decide +kernel),ah (by decide +kernel),ai rfl]
theorem WW {R:T->Prop} {q:List T} (h:∀ t∈q,R t):Nc R (ey q):=by
 refine ⟨fun g hg=>?_,fun c hc=>by cases hc⟩
 obtain ⟨t,ht,rfl⟩:=eU.1 hg
 exact h t ht
end
section
open Go Go.RowKit
section
variable {S:ae} {w w0:World} {X:List Nat} {L:List Item} {K:Value->World->Prop}
attribute [local irreducible] Run CondV az aO
theorem Zy (h:Inv w0 X L S w) {cs:List Value} {t:T} (hc:RdT S cs t) (hk:∀ v S' w',Ext w0.heap.size X S S'->RdSl S' 4 (RdT S') v [t]->Inv w0 X L S' w'->K v w'):Run Tryz.prog (bC cA 1 [(0,.agg cs.toArray)]) w K:=by
 refine er h bo (by simp [Value.cells,hc.length]) (by omega) (by omega) fun b w' hI=>?_
 obtain ⟨S1,hI,hE,hb⟩:=hI.pub1
 exact hk _ S1 w' hE (Xd hb (hc.mono hE.1)) hI
end
end
end Go.Proofs.YtgllldjiaglkcaaGreatDoor
