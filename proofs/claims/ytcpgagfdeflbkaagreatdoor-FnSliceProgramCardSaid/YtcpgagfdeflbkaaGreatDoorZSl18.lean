/- impl.Solve. -/
import Derived.Test.YtcpgagfdeflbkaaGreatDoorZSl17
import Derived.Test.YtcpgagfdeflbkaaGreatDoorZSl14
import Derived.Test.YtcpgagfdeflbkaaGreatDoorZSl3
import Derived.Test.YtcpgagfdeflbkaaGreatDoorZSl10
import Derived.Test.YtcpgagfdeflbkaaGreatDoorZSl2
namespace Go.Proofs.YtcpgagfdeflbkaaGreatDoor
section
open Go Go.RowKit
mutual
theorem QG (vs:List Int):∀ t:T,wT (r4 vs t)<=wT t
 | .mk k n s ks=>by
  rw [r4]
  split
  ·show (0+0+0:Nat)<=_
   omega
  ·have:=He vs ks
   rw [wT,wT,mj vs ks]
   omega
theorem He (vs:List Int):∀ ts:List T,wL (iN vs ts)<=wL ts
 | []=>by rw [iN]; exact aM _
 | t::ts=>by
  have h1:=QG vs t
  have h2:=He vs ts
  rw [iN,wL,wL]
  omega
end
def MC (vs:List T):Prop:=vs.length+wL vs<=1048576
theorem ValsI.small {N:Nat} {st:aj} (hg:Good N st) {vars:List Int} (hv:∀ n∈vars,0<=n/\n<N) (hl:vars.length<=1000) {vs:List T} (h:ValsI st vars (some vs)):MC vs:=by
 obtain ⟨us,hus,ho⟩:=h
 have hul:=Gy hus
 rw [pF] at hul
 split at ho
 ·rename_i hc
  cases ho
  have hw:=Ck (N:=N) (us:=us) fun u hu=>by
   obtain ⟨i,hi,rfl⟩:=yf hu
   refine ⟨ed.1 hc.1 _ hu,lg hg (Gb hus i (by rw [pF]; omega) hi) ?_⟩
   rw [EJ]
   exact Bf (hv _ (bQ _))
  have:=He (ef us []) us
  unfold MC
  rw [mj]
  omega
 ·cases ho
theorem RunI.small {p:List C} (hp:∀ cl∈p,o7 cl) {vars:List Int} (hv:∀ n∈vars,0<=n/\n<26) (hl:vars.length<=1000) {most n:Nat} {s:SI} {out:List (List T)} {r:List (List T) × Int} (h:RunI p vars most n s out r) :
  xd p.length s->26<=s.st.length->(∀ vs∈out,MC vs)->∀ vs∈r.1,MC vs:=by
 induction h with
 | fuel=>exact fun _ _ h=>h
 | stop=>exact fun _ _ h=>h
 | more=>exact fun _ _ h=>h
 | large=>exact fun _ _ h=>h
 | step _ hst _ ih=>
  intro hs h26 ho
  obtain ⟨j1,_,_,_,j5⟩:=hst.ok hp hs _ rfl
  exact ih j1 (by omega) ho
 | last _ _ hval _=>
  intro hs h26 ho vs hvs
  rcases cd.1 hvs with h|h
  ·exact ho vs h
  ·rw [bY.1 h]
   exact hval.small hs.good (fun n hn=>⟨(hv n hn).1,by have:=(hv n hn).2; omega⟩) hl
 | next _ _ hval hb _ ih=>
  intro hs h26 ho
  obtain ⟨j1,_,_,j4⟩:=hb.ok hp hs.chs _ rfl
  refine ih j1 (by omega) fun vs hvs=>?_
  rcases cd.1 hvs with h|h
  ·exact ho vs h
  ·rw [bY.1 h]
   exact hval.small hs.good (fun n hn=>⟨(hv n hn).1,by have:=(hv n hn).2; omega⟩) hl
def SolR (p:List C) (q:List T) (most fuel:Nat) (r:List (List T) × Int):Prop:=((ci p && bT q)=true/\RunI p (ef q []) most fuel (io q) [] r) ∨ ((ci p && bT q)=false/\r=([],9))
theorem n8 {p:List C} (h:ci p=true):(∀ cl∈p,o7 cl)/\(∀ cl∈p,cl.body.length<=1048576)/\p.length<=20:=by
 rw [ci,bN,bC,ed] at h
 exact ⟨fun cl hc=>JF (h.2 cl hc),fun cl hc=>by have:=(gD (h.2 cl hc)).2.2; omega,h.1⟩
theorem xJ {q:List T} (h:bT q=true):q.length<=6/\(∀ t∈q,dJ t=true):=by
 rw [bT,bN,bC,ed] at h
 exact ⟨h.1,fun t ht=>lb (h.2 t ht)⟩
theorem BE:∀ {q:List T},(∀ t∈q,dJ t=true)->cR q<=120 * (q.length:Int)
 | [],_=>by simp [cR]
 | t::q,h=>by
  have h1:=h t (bq ..)
  rw [dJ,bN] at h1
  have h2:dZ t<=120:=by simpa using h1.2
  have h3:=BE fun x hx=>h x (bv _ hx)
  rw [cR,bk]
  omega
theorem Bt {q:List T} (h:bT q=true):(∀ n∈ef q [],0<=n/\n<26)/\(ef q []).length<=1000/\cR q<=1000:=by
 obtain ⟨h1,h2⟩:=xJ h
 have h3:=BE h2
 have h4:=vW q []
 rw [bG] at h4
 exact ⟨xf q [] (Mh fun t ht=>Fa t (jE (h2 t ht))) (by simp),by omega,by omega⟩
theorem vX {q:List T} (h:bT q=true) (m:Nat):xd m (io q):=Nx m fun t ht=>by
 have hv:=(xJ h).2 t ht
 exact ⟨⟨jE hv,by have:=qY hv; omega⟩,xC hv⟩
theorem SolR.ex (p:List C) (q:List T) (most fuel:Nat):∃ r,SolR p q most fuel r:=by
 by_cases h:(ci p && bT q)=true
 ·have h':=h
  rw [bN] at h'
  obtain ⟨r,hr⟩:=RunI.ex (n8 h'.1).1 (Bt h'.2).1 most _ fuel (io q) [] (aM _) (aR _) (vX h'.2 _) (by show 26<=(List.replicate 26 (none:Option T)).length; simp)
  exact ⟨r,.inl ⟨h,hr⟩⟩
 ·exact ⟨_,.inr ⟨by simpa using h,rfl⟩⟩
end
section
open Go Go.RowKit
def cls (p:List C) (l:List Int):List (Option C):=l.map fun i=>p[i.toNat]?
def sameHd (t u:T):Prop:=u.kind=t.kind/\u.name=t.name/\u.kids.length=t.kids.length
structure Alk (p s:List C) (R:T->Prop):Prop where
 for_:∀ t,R t->fp t=false->cr t=false->cls p (iz p t)=cls s (iz s t)
 body:∀ t,R t->∀ i∈iz p t,∀ cl,p[i.toNat]?=some cl->∀ b∈cl.body,R b
 hd:∀ t u,R t->sameHd t u->R u
 three:∀ t,R t->t.kind=3
def Ql (p:List C) (R:T->Prop) (l:List Int):Prop:=∀ i∈l,∀ cl,p[i.toNat]?=some cl->∀ b∈cl.body,R b
structure RT (p s:List C) (R:T->Prop) (c d:CI):Prop where
 goal:d.goal=c.goal
 node:d.node=c.node
 rest:d.rest=c.rest
 left:cls s d.left=cls p c.left
 binds:d.binds=c.binds
 taken:d.taken=c.taken
 rR:∀ g∈c.rest,R g.t
 lR:Ql p R c.left
def simCs (p s:List C) (R:T->Prop) (cs ds:List CI):Prop:=cs.length=ds.length/\∀ i (h:i<cs.length) (h':i<ds.length),RT p s R cs[i] ds[i]
structure Pt (p s:List C) (R:T->Prop) (x y:SI):Prop where
 st:y.st=x.st
 goals:y.goals=x.goals
 chs:simCs p s R x.chs y.chs
 nodes:y.nodes.length=x.nodes.length
 gR:∀ g∈x.goals,R g.t
def Ut (p s:List C) (R:T->Prop) (o o':Option HI):Prop:=(o=none/\o'=none) ∨ ∃ r r':HI,o=some r/\o'=some r'/\r'.cl=r.cl/\r'.by_=r.by_/\r'.st=r.st/\cls s r'.l=cls p r.l/\Ql p R r.l/\∀ b∈r.cl.body,R b
def simO (p s:List C) (R:T->Prop) (o o':Option SI):Prop:=(o=none/\o'=none) ∨ ∃ x y,o=some x/\o'=some y/\Pt p s R x y
section
variable {p s:List C} {R:T->Prop}
theorem sameHd.shift (b:Int) (t:T) (h:t.kind≠1):sameHd t (dl b t):=by
 cases t with
 | mk k n m ks=>
  simp only [T.kind] at h
  rw [dl,af h]
  exact ⟨rfl,rfl,by simp [T.kids,s3]⟩
theorem RB {st:aj} {t u:T} (h:Res st (.one t u)) (h3:t.kind≠1):sameHd t u:=by
 cases h with
 | @one _ v us hw hl=>
  have hv:v=t:=by
   cases hw with
   | stop _=>rfl
   | step hk _=>exact absurd (dc.1 hk).1 h3
  subst hv
  refine ⟨rfl,rfl,?_⟩
  show us.length=v.kids.length
  have:∀ {ts us:List T},Res st (.list ts us)->us.length=ts.length:=by
   intro ts
   induction ts with
   | nil=>intro us h; cases h; rfl
   | cons t ts ih=>intro us h; cases h with|cons _ h=>rw [bk,bk,ih h]
  exact this hl
theorem jD {l l':List Int} (h:cls s l'=cls p l):l'=[]↔l=[]:=by
 have:=congrArg List.length h
 simp only [cls,pF] at this
 constructor
 ·rintro rfl; exact iW (by simpa using this.symm)
 ·rintro rfl; exact iW (by simpa using this)
theorem TryI.sim {g:T} {l:List Int} {st:aj} {o:Option HI} {n:Nat} (h:TryI p g l st o n):∀ l',cls s l'=cls p l->Ql p R l->(∀ i∈l',0<=i)->∃ o',TryI s g l' st o' n/\Ut p s R o o':=by
 induction h with
 | nil=>
  intro l' hl _ _
  obtain rfl:=(jD hl).2 rfl
  exact ⟨none,.nil,.inl ⟨rfl,rfl⟩⟩
 | @hit i l cl st st' hi hu=>
  intro l' hl hok hl0
  cases l' with
  | nil=>simp [cls] at hl
  | cons j l'=>
   obtain ⟨k,rfl⟩:∃ k:Nat,j=(k:Int):=⟨j.toNat,by have:=hl0 j (by simp); omega⟩
   simp only [cls,pj,jl,dF] at hl
   rw [hi] at hl
   exact ⟨_,.hit hl.1 hu,.inr ⟨_,_,rfl,rfl,rfl,rfl,rfl,hl.2,fun x hx=>hok x (bv _ hx),hok i (bq ..) cl (by rw [dF]; exact hi)⟩⟩
 | @miss i l cl st st' o n hi hu _ ih=>
  intro l' hl hok hl0
  cases l' with
  | nil=>simp [cls] at hl
  | cons j l'=>
   obtain ⟨k,rfl⟩:∃ k:Nat,j=(k:Int):=⟨j.toNat,by have:=hl0 j (by simp); omega⟩
   simp only [cls,pj,jl,dF] at hl
   rw [hi] at hl
   obtain ⟨o',h1,h2⟩:=ih l' hl.2 (fun x hx=>hok x (bv _ hx)) fun x hx=>hl0 x (bv _ hx)
   exact ⟨o',.miss hl.1 hu h1,h2⟩
theorem simCs.snoc {cs ds:List CI} {c d:CI} (h:simCs p s R cs ds) (hc:RT p s R c d):simCs p s R (cs++[c]) (ds++[d]):=by
 refine ⟨by simp [h.1],fun i hi hi'=>?_⟩
 by_cases hic:i<cs.length
 ·rw [ft hic,ft (h:=by have:=h.1; omega)]
  exact h.2 i hic _
 ·rw [bh,bk,bG] at hi
  have h1:=h.1
  obtain rfl:i=cs.length:=by omega
  rw [eT (aM _),eT (by omega)]
  simpa [h1] using hc
theorem simCs.last {cs ds:List CI} {c d:CI} (h:simCs p s R (cs++[c]) (ds++[d])):simCs p s R cs ds/\RT p s R c d:=by
 have h1:cs.length=ds.length:=by have:=h.1; simpa using this
 refine ⟨⟨h1,fun i hi hi'=>?_⟩,?_⟩
 ·have:=h.2 i (by rw [bh]; omega) (by rw [bh]; omega)
  rwa [ft hi,ft hi'] at this
 ·have:=h.2 cs.length (by simp) (by simp [h1])
  rw [eT (aM _),eT (by omega)] at this
  simpa [h1] using this
theorem HZ (hR:Alk p s R) {cs ds:List CI} {ns ms:List NI} {g:T} {a:Int} {rest:List GI} {b:aj} {r r':HI} (hcs:simCs p s R cs ds) (hn:ms.length=ns.length) (hr:∀ x∈rest,R x.t)
  (hh:r'.cl=r.cl/\r'.by_=r.by_/\r'.st=r.st/\cls s r'.l=cls p r.l/\Ql p R r.l/\∀ b∈r.cl.body,R b):Pt p s R (jL cs ns g a rest b r) (jL ds ms g a rest b r'):=by
 obtain ⟨h1,h2,h3,h4,h5,h6⟩:=hh
 refine ⟨h3,?_,?_,?_,?_⟩
 ·show r2 r'.cl r'.by_ ds.length a rest=r2 r.cl r.by_ cs.length a rest
  rw [h1,h2,hcs.1]
 ·show simCs p s R (cs++(if r.l=[] then [] else [⟨g,a,rest,r.l,b,ns.length⟩])) (ds++(if r'.l=[] then [] else [⟨g,a,rest,r'.l,b,ms.length⟩]))
  by_cases hl:r.l=[]
  ·rw [ai hl,ai ((jD h4).2 hl),cX,cX]; exact hcs
  ·rw [af hl,af (fun e=>hl ((jD h4).1 e))]
   exact hcs.snoc ⟨rfl,rfl,rfl,h4,rfl,hn,hr,h5⟩
 ·show (Fr ms a.toNat r'.i).length=(Fr ns a.toNat r.i).length
  rw [vF,vF,hn]
 ·intro x hx
  have hx':x∈r2 r.cl r.by_ cs.length a rest:=hx
  unfold r2 at hx'
  rcases cd.1 hx' with hx'|hx'
  ·obtain ⟨t,ht,rfl⟩:=iX.1 hx'
   have h3:=hR.three t (h6 t ht)
   exact hR.hd t _ (h6 t ht) (sameHd.shift _ t (by omega))
  ·exact hr x hx'
theorem BackI.sim (hR:Alk p s R) {cs:List CI} {n:Nat} {ns:List NI} {o:Option SI} (h:BackI p cs n ns o):∀ ds ms,simCs p s R cs ds->ms.length=ns.length->(∀ d∈ds,∀ i∈d.left,0<=i)->∃ o',BackI s ds n ms o'/\simO p s R o o':=by
 induction h with
 | nil=>
  intro ds ms hd _ _
  obtain rfl:ds=[]:=iW (by simpa using hd.1.symm)
  exact ⟨none,.nil,.inl ⟨rfl,rfl⟩⟩
 | @hit cs c n m ns r ht=>
  intro ds ms hd hn h0
  obtain ⟨ds',d,rfl⟩:∃ ds' d,ds=ds'++[d]:=⟨ds.dropLast,ds.getLast (by intro e; rw [e] at hd; simp [simCs] at hd),(LZ _).symm⟩
  obtain ⟨h1,h2⟩:=hd.last
  obtain ⟨o',q1,q2⟩:=ht.sim (s:=s) (R:=R) d.left h2.left h2.lR (h0 d (by simp))
  rcases q2 with ⟨q,_⟩|⟨r1,r',e1,rfl,hh⟩
  ·cases q
  simp only [aT] at e1
  subst e1
  have q1:TryI s d.goal d.left (bU d.binds n) (some r') m:=by rw [h2.goal,h2.binds]; exact q1
  refine ⟨_,.hit q1,.inr ⟨_,_,rfl,rfl,?_⟩⟩
  rw [h2.goal,h2.node,h2.rest,h2.binds,h2.taken]
  exact HZ hR h1 (by rw [dN,dN,hn]) h2.rR hh
 | @miss cs c n m ns o ht _ ih=>
  intro ds ms hd hn h0
  obtain ⟨ds',d,rfl⟩:∃ ds' d,ds=ds'++[d]:=⟨ds.dropLast,ds.getLast (by intro e; rw [e] at hd; simp [simCs] at hd),(LZ _).symm⟩
  obtain ⟨h1,h2⟩:=hd.last
  obtain ⟨o',q1,q2⟩:=ht.sim (s:=s) (R:=R) d.left h2.left h2.lR (h0 d (by simp))
  rcases q2 with ⟨_,rfl⟩|⟨r1,r',e1,_⟩
  ·have q1:TryI s d.goal d.left (bU d.binds n) none m:=by rw [h2.goal,h2.binds]; exact q1
   obtain ⟨o2,k1,k2⟩:=ih ds' (ms.take d.taken) h1 (by rw [dN,dN,hn,h2.taken]) fun x hx=>h0 x (eM _ hx)
   exact ⟨o2,.miss q1 k1,k2⟩
  ·cases e1
theorem simO.isSome {o o':Option SI} (h:simO p s R o o'):o'.isSome=o.isSome:=by
 rcases h with ⟨rfl,rfl⟩|⟨x,y,rfl,rfl,_⟩ <;> rfl
theorem StepI.sim (hR:Alk p s R) {x y:SI} {o:Option SI} {e:Int} (h:StepI p false x o e) (hs:Pt p s R x y) (h0:∀ d∈y.chs,∀ i∈d.left,0<=i):∃ o',StepI s false y o' e/\simO p s R o o':=by
 have hst:=hs.st
 have hgo:=hs.goals
 have hgR:=hs.gR
 have nd:∀ z:NI,(y.nodes++[z]).length=(x.nodes++[z]).length:=fun z=>by simp [hs.nodes]
 have hRt:∀ {g:GI} {gs:List GI} {t:T},x.goals=g::gs->Res x.st (.one g.t t)->R t:=fun {g gs t} hg ht=>by
  have h1:=hgR g (by rw [hg]; simp)
  have h3:=hR.three _ h1
  exact hR.hd _ _ h1 (RB ht (by omega))
 cases h with
 | large hg ht hsm=>exact ⟨none,.large (by rw [hgo]; exact hg) (by rw [hst]; exact ht) hsm,.inl ⟨rfl,rfl⟩⟩
 | noCut _ _ _ _ h=>cases h
 | @cut g gs t hg ht hsm hc hnc=>
  refine ⟨_,.cut (by rw [hgo]; exact hg) (by rw [hst]; exact ht) hsm hc rfl,.inr ⟨_,_,rfl,rfl,hst,rfl,?_,nd _,fun z hz=>hgR z (by rw [hg]; exact bv _ hz)⟩⟩
  refine ⟨by rw [dN,dN,hs.chs.1],fun i hi hi'=>?_⟩
  rw [dN] at hi hi'
  rw [Ik,Ik]
  exact hs.chs.2 i (by omega) (by omega)
 | @solved g gs t st hg ht hsm hc hb hB=>
  exact ⟨_,.solved (by rw [hgo]; exact hg) (by rw [hst]; exact ht) hsm hc hb (by rw [hst]; exact hB),.inr ⟨_,_,rfl,rfl,rfl,rfl,hs.chs,nd _,fun z hz=>hgR z (by rw [hg]; exact bv _ hz)⟩⟩
 | @fail g gs t st o hg ht hsm hc hb hB ho=>
  obtain ⟨o',k1,k2⟩:=ho.sim hR y.chs _ hs.chs (nd ⟨t,g.up,-1⟩) h0
  rw [<- k2.isSome]
  exact ⟨o',.fail (by rw [hgo]; exact hg) (by rw [hst]; exact ht) hsm hc hb (by rw [hst]; exact hB) (by rw [hst]; exact k1),k2⟩
 | err hg ht hsm hc hb hB h1 h2=>exact ⟨none,.err (by rw [hgo]; exact hg) (by rw [hst]; exact ht) hsm hc hb (by rw [hst]; exact hB) h1 h2,.inl ⟨rfl,rfl⟩⟩
 | unknown hg ht hsm hc hb hf=>
  have hf':=hR.for_ _ (hRt hg ht) hc hb
  exact ⟨none,.unknown (by rw [hgo]; exact hg) (by rw [hst]; exact ht) hsm hc hb ((jD hf'.symm).2 hf),.inl ⟨rfl,rfl⟩⟩
 | @took g gs t r m hg ht hsm hc hb hf hT=>
  have hRT:=hRt hg ht
  have hf':=hR.for_ _ hRT hc hb
  obtain ⟨o',q1,q2⟩:=hT.sim (s:=s) (R:=R) (iz s t) hf'.symm (hR.body t hRT) fun i hi=>(nY s t i hi).1
  rcases q2 with ⟨q,_⟩|⟨r1,r',e1,rfl,hh⟩
  ·cases q
  simp only [aT] at e1
  subst e1
  refine ⟨_,.took (by rw [hgo]; exact hg) (by rw [hst]; exact ht) hsm hc hb (fun e=>hf ((jD hf'.symm).1 e)) (by rw [hst]; exact q1),.inr ⟨_,_,rfl,rfl,?_⟩⟩
  rw [hst,hs.nodes]
  exact HZ hR hs.chs (nd _) (fun z hz=>hgR z (by rw [hg]; exact bv _ hz)) hh
 | @back g gs t m o hg ht hsm hc hb hf hT ho=>
  have hRT:=hRt hg ht
  have hf':=hR.for_ _ hRT hc hb
  obtain ⟨o',q1,q2⟩:=hT.sim (s:=s) (R:=R) (iz s t) hf'.symm (hR.body t hRT) fun i hi=>(nY s t i hi).1
  rcases q2 with ⟨_,rfl⟩|⟨r1,r',e1,_⟩
  ·obtain ⟨o2,k1,k2⟩:=ho.sim hR y.chs _ hs.chs (nd ⟨t,g.up,-1⟩) h0
   rw [<- k2.isSome]
   exact ⟨o2,.back (by rw [hgo]; exact hg) (by rw [hst]; exact ht) hsm hc hb (fun e=>hf ((jD hf'.symm).1 e)) (by rw [hst]; exact q1) k1,k2⟩
  ·cases e1
theorem okCs.pos {m n k:Nat} {cs:List CI} (h:okCs m n k cs):∀ d∈cs,∀ i∈d.left,0<=i:=fun d hd i hi=>by
 obtain ⟨j,hj,rfl⟩:=yf hd
 exact ((h.at_ j hj).1.left i hi).1
theorem RunI.sim (hR:Alk p s R) (hp:∀ cl∈p,o7 cl) (hq:∀ cl∈s,o7 cl) {vars:List Int} {most n:Nat} {x:SI} {out:List (List T)} {r:List (List T) × Int} (h:RunI p vars most n x out r):∀ y,Pt p s R x y->xd p.length x->xd s.length y->RunI s vars most n y out r:=by
 induction h with
 | fuel hg=>intro y hs _ _; exact .fuel (by rw [hs.goals]; exact hg)
 | stop hg hst=>
  intro y hs _ hy
  obtain ⟨o',k1,k2⟩:=hst.sim hR hs hy.chs.pos
  rcases k2 with ⟨_,rfl⟩|⟨_,_,e,_⟩
  ·exact .stop (by rw [hs.goals]; exact hg) k1
  ·cases e
 | step hg hst _ ih=>
  intro y hs hx hy
  obtain ⟨o',k1,k2⟩:=hst.sim hR hs hy.chs.pos
  rcases k2 with ⟨e,_⟩|⟨x',y',e,rfl,hs'⟩
  ·cases e
  simp only [aT] at e
  subst e
  exact .step (by rw [hs.goals]; exact hg) k1 (ih y' hs' (hst.ok hp hx _ rfl).1 (k1.ok hq hy _ rfl).1)
 | more hg hm=>intro y hs _ _; exact .more (by rw [hs.goals]; exact hg) hm
 | large hg hm hv=>intro y hs _ _; exact .large (by rw [hs.goals]; exact hg) hm (by rw [hs.st]; exact hv)
 | last hg hm hv hb=>
  intro y hs _ hy
  obtain ⟨o',k1,k2⟩:=hb.sim hR y.chs y.nodes hs.chs hs.nodes hy.chs.pos
  rcases k2 with ⟨_,rfl⟩|⟨_,_,e,_⟩
  ·exact .last (by rw [hs.goals]; exact hg) hm (by rw [hs.st]; exact hv) (by rw [hs.st]; exact k1)
  ·cases e
 | next hg hm hv hb _ ih=>
  intro y hs hx hy
  obtain ⟨o',k1,k2⟩:=hb.sim hR y.chs y.nodes hs.chs hs.nodes hy.chs.pos
  rcases k2 with ⟨e,_⟩|⟨x',y',e,rfl,hs'⟩
  ·cases e
  simp only [aT] at e
  subst e
  refine .next (by rw [hs.goals]; exact hg) hm (by rw [hs.st]; exact hv) (by rw [hs.st]; exact k1) (ih y' hs' (hb.ok hp hx.chs _ rfl).1 ?_)
  have hyc:=hy.chs
  rw [hs.st] at hyc
  exact (k1.ok hq hyc _ rfl).1
end
end
section
open Go Go.RowKit
attribute [local irreducible] Run CondV aq aK

def isP (x:Pd) (c:C):Bool:=eC (bE c.head) x
def fc (p:List C) (x:Pd):List C:=(p.filter fun c=>!isP x c)++p.filter (isP x)
def nI (p:List C) (x:Pd):List C:=if ci p=true then fc p x else []
theorem HJ (p:List C) (x:Pd):(fc p x).length+wP (fc p x)=p.length+wP p:=by
 have:=wm (isP x) p
 rw [fc,DR,bh]
 omega
end
section
open Go Go.RowKit
attribute [local irreducible] Run CondV aq aK

def inP (l:List Pd) (c:C):Bool:=pq l (bE c.head)
def fw (p:List C) (q:List T):List C:=if (ci p && bT q)=true then p.filter (inP (fP p (bW [] q))) else []
theorem BT (f:C->Bool) (p:List C):(p.filter f).length+wP (p.filter f)<=p.length+wP p:=by
 have:=wm f p
 omega
theorem qH {p:List C} {q:List T} {S:ad} {v u:Value} (h:RdSl S 5 (RdC S) v p) (hq:RdSl S 4 (RdT S) u q) (hw:p.length+wP p<=1048576) (hw2:q.length+wL q<=1048576) :
  Tri Tryz.prog wR [v,u] [] S (Lc S (fw p q) (ci p && bT q)):=by
 intro w hI
 have hgl:=iE q []
 refine lC.2 ?_
 dsimp only[lC,aO]
 refine ⟨fun t w'=>t=.bool (!(ci p && bT q))/\Inv w [] [] S w',?_,?_⟩
 ·refine Run.callPure tq vE hI (qg h (by omega)) fun w' hI=>?_
  refine ct ?_
  cases hv:ci p
  ·refine rpG ?_
   exact ⟨rfl,hI⟩
  ·refine rpG ?_
   refine Run.callPure oh oT hI (kD hq (by omega)) fun w' hI=>?_
   refine ct ?_
   refine rpG ?_
   exact ⟨rfl,hI⟩
 intro t _ _ _ _ _ _ _ w'
 rintro ⟨rfl,hI⟩
 rw [fw]
 generalize (ci p && bT q)=ok
 cases ok
 ·refine aw (fun _=>?_) (fun hb=>by cases hb)
  refine d3 hI de fun v0 w' hI=>?_
  rw [af (by decide)]
  have hI:Inv w [] ([]++(aE v0 ag 5 []::bj ([]:List aU).flatten)) S w':=hI
  obtain ⟨L,hT,hI⟩:=Inv.rowTree (R:=TrC) hI (Grown.nil 5 TrC)
  exact ⟨_,_,_,rfl,hI,Ext.refl _ _ _,rfl,_,L,rfl,rfl,hT⟩
 refine aw (fun hb=>by cases hb) (fun _=>?_)
 rw [ai rfl]
 refine d3 hI fT fun v0 w' hI=>?_
 refine Run.call (A:=[]) rZ sr hI (md [] hq (by simp; omega)) fun v' I' S2 w'=>?_
 rintro ⟨rfl,rfl⟩ _ hI
 refine Run.call (A:=[]) C6 Dz hI (xb (bW [] q) h (by omega) (by omega) (by simp at hgl; omega)) fun t22 I' S' w'=>?_
 rintro ⟨rfl,rfl⟩ _ hI
 generalize fP p (bW [] q)=l at hI
 have hfw:=BT (inP l) p
 have hI:Inv w [] ([]++[cW t22 l]) S' w':=hI
 obtain ⟨S1,hle,hrd,hI,_⟩:=hI.lend
 have hrl:=hrd.preds
 have h1:=h.monoC hle
 refine d3 hI de fun v1 w' hI=>?_
 refine ⟨fun i t w'=>∃ (k:Nat) (c1:List (List Value)) (l1:List C),k<=p.length/\i=.int .i64 k/\Rows 5 (RdC S1) c1 l1/\l1++(p.drop k).filter (inP l)=p.filter (inP l)/\
   Inv w [] [aE t ag 5 c1] S1 w',fun i _ _=>p.length - (intOf i).toNat,⟨0,[],[],aR _,rfl,Rows.nil _ _,rfl,hI⟩,?_⟩
 intro t8 _ _ t7 _ _ _ _ _ _ _ _ _ _ _ _ _ _ _ _ _ _ _ w'
 rintro ⟨k,c1,l1,hk,rfl,hR1,hr1,hI⟩
 have hl1:l1.length<=p.length:=by
  have h1:=congrArg List.length hr1
  have h2:=IJ (inP l) p
  simp only [bh] at h1
  omega
 have hcl1:=hR1.hc
 refine aF h1 bi ?_
 refine bL ?_
 refine aH (fun hki=>?_) (fun hki=>?_)
 ·have hk':k<p.length:=by omega
  rw [<- ya _ p k hk' l1] at hr1
  refine ⟨fun t w'=>∃ c1',Rows 5 (RdC S1) c1' (if inP l p[k]=true then l1++[p[k]] else l1)/\Inv w [] [aE t ag 5 c1'] S1 w',?_,?_⟩
  ·have h0:=h1
   obtain ⟨b,o,cap,c,E,fz,rfl,hS,hR⟩:=h1.at_ hk'
   obtain ⟨hd,ks2,hcs,g1,g2⟩:=hR
   obtain ⟨kv,rfl,_,_,hs1,hk1⟩:=RdT.iff.1 g1
   refine aD bi hk' ?_
   refine aC bZ ?_
   rw [CJ]
   refine cm (cs:=[.int .i64 p[k].head.kind,.int .i64 p[k].head.n,.string p[k].head.name,kv]) ac rfl (fun j v hj=>by rw [hI.cellS hS]; exact aL hcs j v (by match j,hj with|0,hj=>exact hj|1,hj=>exact hj|2,hj=>exact hj|3,hj=>exact hj|j+4,hj=>simp at hj)) ?_
   refine Run.callPure sO sB hI (lH g1) fun w' hI=>?_
   refine Run.callPure xZ yz hI (uh (bE p[k].head) hrl) fun w' hI=>?_
   refine aw (fun hb=>?_) (fun hb=>?_)
   ·refine cj hI h0 bi be hk' (fun _ _=>RdC.length) fun cs hcs=>?_
    refine cM hI 0 cs de (by omega) (by omega) rfl hcs.length hcs.one (by omega) (by omega) fun v' w' hI=>?_
    refine ⟨c1++[cs],?_,hI⟩
    rw [ai (show inP l p[k]=true from hb)]; exact hR1.snoc hcs hcs.length
   ·refine ⟨c1,?_,hI⟩
    rw [af (by rw [inP,hb]; decide)]; exact hR1
  ·intro t _ _ _ _ _ _ _ _ _ _ _ _ _ _ _ w'
   rintro ⟨c1',hR1,hI⟩
   refine bn (by omega) ?_
   exact ⟨⟨k+1,c1',_,hk',rfl,hR1,hr1,hI⟩,by simp [intOf]; omega⟩
 ·have:k=p.length:=by omega
  subst this
  rw [dP,List.filter_nil,cX] at hr1
  have hI:Inv w [] ([]++[aE t7 ag 5 c1]) S1 w':=hI
  obtain ⟨S3,hle3,hrd3,hI,_⟩:=hI.lend
  rw [hr1] at hR1
  have hrr:RdSl S3 5 (RdC S3) t7 (p.filter (inP l)):=(RowRd.rows hR1 hrd3).mono (Sle.refl _) fun _ _ h=>h.mono hle3
  refine Run.call0 GA GJ hI (C1 hrr (by omega)) fun v3 I' S' w'=>?_
  rintro ⟨rfl,L,rfl,hT⟩ _ hI
  exact ⟨_,_,_,rfl,hI.less (hle.trans hle3),Ext.refl _ _ _,rfl,_,L,rfl,rfl,hT⟩
theorem KS (p:List C) (q:List T) (h:(ci p && bT q)=true):uk p q=fP p (bW [] q):=by rw [uk,ai h]
theorem iO {p:List C} {q:List T} {S:ad} {v u:Value} (h:RdSl S 5 (RdC S) v p) (hq:RdSl S 4 (RdT S) u q) (hw:p.length+wP p<=1048576) (hw2:q.length+wL q<=1048576) :
  Tri Tryz.prog wE [v,u] [] S (Lc S (fw p q) (ci p && bT q)):=by
 intro w hI
 have hro:=KS p q
 refine lo.2 ?_
 dsimp only[lo,aO]
 refine ⟨fun t w'=>t=.bool (!(ci p && bT q))/\Inv w [] [] S w',?_,?_⟩
 ·refine Run.callPure hH g9 hI (gi h) fun w' hI=>?_
  refine ct ?_
  cases hv:ci p
  ·refine rpG ?_
   exact ⟨rfl,hI⟩
  ·refine rpG ?_
   refine Run.callPure jh je hI (gS hq) fun w' hI=>?_
   refine ct ?_
   refine rpG ?_
   exact ⟨rfl,hI⟩
 intro t _ _ _ _ _ _ _ w'
 rintro ⟨rfl,hI⟩
 rw [fw]
 have hcalls:=zz h hq hw hw2
 generalize (ci p && bT q)=ok at hro
 cases ok
 ·refine aw (fun _=>?_) (fun hb=>by cases hb)
  rw [af (by decide)]
  exact ⟨_,_,_,rfl,hI,Ext.refl _ _ _,rfl,_,[],rfl,rfl,TrSl.nil (by simp [maxLen])⟩
 refine aw (fun hb=>by cases hb) (fun _=>?_)
 rw [ai rfl]
 rw [hro rfl] at hcalls
 refine Run.call0 Gu Fo hI hcalls fun t22 I' S' w'=>?_
 rintro ⟨rfl,rfl⟩ _ hI
 generalize fP p (bW [] q)=l at hI
 have hfw:=BT (inP l) p
 have hI:Inv w [] ([]++[cW t22 l]) S' w':=hI
 obtain ⟨S1,hle,hrd,hI,_⟩:=hI.lend
 have hrl:=hrd.preds
 have h1:=h.monoC hle
 refine aF h1 bi ?_
 refine ⟨fun i t w'=>∃ (k:Nat) (c1:List (List Value)) (l1:List C),k<=p.length/\i=.int .i64 k/\Rows 5 (RdC S1) c1 l1/\l1++(p.drop k).filter (inP l)=p.filter (inP l)/\
   Inv w [] [aE t ag 5 c1] S1 w',fun i _ _=>p.length - (intOf i).toNat,⟨0,[],[],aR _,rfl,Rows.nil _ _,rfl,hI.rowNil ag 5⟩,?_⟩
 intro t23 _ t7 _ _ _ _ _ _ _ _ _ _ _ _ _ w'
 rintro ⟨k,c1,l1,hk,rfl,hR1,hr1,hI⟩
 have hl1:l1.length<=p.length:=by
  have h1:=congrArg List.length hr1
  have h2:=IJ (inP l) p
  simp only [bh] at h1
  omega
 have hcl1:=hR1.hc
 refine bL ?_
 refine aH (fun hki=>?_) (fun hki=>?_)
 ·have hk':k<p.length:=by omega
  rw [<- ya _ p k hk' l1] at hr1
  refine ⟨fun t w'=>∃ c1',Rows 5 (RdC S1) c1' (if inP l p[k]=true then l1++[p[k]] else l1)/\Inv w [] [aE t ag 5 c1'] S1 w',?_,?_⟩
  ·refine cj hI h1 bi be hk' (fun _ _=>RdC.length) fun cs hcs=>?_
   have hcs0:=hcs
   obtain ⟨hd,ks,rfl,g1,g2⟩:=hcs
   have g1':=g1
   obtain ⟨kv,rfl,_,_,hs,hks⟩:=RdT.iff.1 g1
   have hc0:RdC S1 [.int .i64 p[k].head.kind,.int .i64 p[k].head.n,.string p[k].head.name,kv,ks] p[k]:=hcs0
   refine aP hI dA fun b9 w' hI=>?_
   refine aA hI 1 rfl be rfl rfl hc0.one fun w' hI=>?_
   have hI:Inv w [] [aE t7 ag 5 c1,.blk b9 (.cells #[.int .i64 p[k].head.kind,.int .i64 p[k].head.n,.string p[k].head.name,kv,ks] ag)] S1 w':=hI
   refine aC bZ ?_
   refine ey hI 1 [.int .i64 p[k].head.kind,.int .i64 p[k].head.n,.string p[k].head.name,kv] ac rfl rfl Jp ?_
   refine Run.callPure rg ro hI (jv g1') fun w' hI=>?_
   refine Run.callPure jT jO hI (jn (bE p[k].head) hrl) fun w' hI=>?_
   refine aw (fun hb=>?_) (fun hb=>?_)
   ·refine az hI 1 be rfl rfl ?_
    refine cM hI 0 [.int .i64 p[k].head.kind,.int .i64 p[k].head.n,.string p[k].head.name,kv,ks] de (by omega) (by omega) rfl rfl hc0.one (by omega) (by omega) fun v' w' hI=>?_
    refine ⟨c1++[_],?_,hI.pick [true,false]⟩
    rw [ai (show inP l p[k]=true from hb)]; exact hR1.snoc hc0 rfl
   ·refine ⟨c1,?_,hI.pick [true,false]⟩
    rw [af (by rw [inP,hb]; decide)]; exact hR1
  ·intro t _ _ _ _ _ _ _ _ _ _ _ _ w'
   rintro ⟨c1',hR1,hI⟩
   refine bn (by omega) ?_
   exact ⟨⟨k+1,c1',_,hk',rfl,hR1,hr1,hI⟩,by simp [intOf]; omega⟩
 ·have:k=p.length:=by omega
  subst this
  rw [dP,List.filter_nil,cX] at hr1
  have hI:Inv w [] ([]++[aE t7 ag 5 c1]) S1 w':=hI
  obtain ⟨S3,hle3,hrd3,hI,_⟩:=hI.lend
  rw [hr1] at hR1
  have hrr:RdSl S3 5 (RdC S3) t7 (p.filter (inP l)):=(RowRd.rows hR1 hrd3).mono (Sle.refl _) fun _ _ h=>h.mono hle3
  refine Run.call0 zO zI hI (wI hrr (by omega)) fun v3 I' S' w'=>?_
  rintro ⟨rfl,L,rfl,hT⟩ _ hI
  exact ⟨_,_,_,rfl,hI.less (hle.trans hle3),Ext.refl _ _ _,rfl,_,L,rfl,rfl,hT⟩
end
section
open Go Go.RowKit

theorem mi {l:List Pd} {x:Pd}:pq l x=true↔x∈l:=by
 simp [pq,i0]
theorem BB {l:List Pd} {x y:Pd}:y∈ff l x↔y∈l ∨ y=x:=by
 unfold ff
 split
 ·rename_i h
  rw [mi] at h
  exact ⟨.inl,fun h'=>h'.elim id fun e=>e ▸ h⟩
 ·simp
theorem E9 {l:List Pd} {x:Pd} (h:l.Nodup):(ff l x).Nodup:=by
 unfold ff
 split
 ·exact h
 ·rename_i hx
  rw [mi] at hx
  rw [nR]
  refine ⟨h,by simp,fun a ha b hb e=>?_⟩
  simp at hb
  subst hb
  subst e
  exact hx ha
theorem Pk (l:List Pd) (x:Pd):∃ s,ff l x=l++s:=by
 unfold ff
 split
 ·exact ⟨[],by simp⟩
 ·exact ⟨[x],rfl⟩
theorem sC:∀ (ts:List T) (l:List Pd) (y:Pd),y∈bW l ts↔y∈l ∨ ∃ t∈ts,dg t=true/\bE t=y
 | [],l,y=>by simp [bW]
 | t::ts,l,y=>by
  have e:bW l (t::ts)=bW (if dg t=true then ff l (bE t) else l) ts:=rfl
  rw [e,sC ts]
  split
  ·rename_i h
   rw [BB]
   constructor
   ·rintro ((h1|h1)|⟨u,h1,h2⟩)
    ·exact .inl h1
    ·exact .inr ⟨t,bq ..,h,h1.symm⟩
    ·exact .inr ⟨u,bv _ h1,h2⟩
   ·rintro (h1|⟨u,h1,h2,h3⟩)
    ·exact .inl (.inl h1)
    ·rcases cQ.1 h1 with rfl|h1
     ·exact .inl (.inr h3.symm)
     ·exact .inr ⟨u,h1,h2,h3⟩
  ·rename_i h
   constructor
   ·rintro (h1|⟨u,h1,h2⟩)
    ·exact .inl h1
    ·exact .inr ⟨u,bv _ h1,h2⟩
   ·rintro (h1|⟨u,h1,h2,h3⟩)
    ·exact .inl h1
    ·rcases cQ.1 h1 with rfl|h1
     ·exact absurd h2 h
     ·exact .inr ⟨u,h1,h2,h3⟩
theorem EK:∀ (ts:List T) (l:List Pd),l.Nodup->(bW l ts).Nodup
 | [],l,h=>h
 | t::ts,l,h=>by
  have e:bW l (t::ts)=bW (if dg t=true then ff l (bE t) else l) ts:=rfl
  rw [e]
  refine EK ts _ ?_
  split
  ·exact E9 h
  ·exact h
theorem rQ (x:Pd):∀ (p:List C) (l:List Pd) (y:Pd),y∈dd l p x↔y∈l ∨ ∃ c∈p,bE c.head=x/\∃ t∈c.body,dg t=true/\bE t=y
 | [],l,y=>by simp [dd]
 | c::p,l,y=>by
  have e:dd l (c::p) x=dd (if eC (bE c.head) x=true then bW l c.body else l) p x:=rfl
  rw [e,rQ x p]
  split
  ·rename_i h
   rw [i0,bC] at h
   rw [sC]
   constructor
   ·rintro ((h1|h1)|⟨u,h1,h2⟩)
    ·exact .inl h1
    ·exact .inr ⟨c,bq ..,h,h1⟩
    ·exact .inr ⟨u,bv _ h1,h2⟩
   ·rintro (h1|⟨u,h1,h2,h3⟩)
    ·exact .inl (.inl h1)
    ·rcases cQ.1 h1 with rfl|h1
     ·exact .inl (.inr h3)
     ·exact .inr ⟨u,h1,h2,h3⟩
  ·rename_i h
   rw [i0,bC] at h
   constructor
   ·rintro (h1|⟨u,h1,h2⟩)
    ·exact .inl h1
    ·exact .inr ⟨u,bv _ h1,h2⟩
   ·rintro (h1|⟨u,h1,h2,h3⟩)
    ·exact .inl h1
    ·rcases cQ.1 h1 with rfl|h1
     ·exact absurd h2 h
     ·exact .inr ⟨u,h1,h2,h3⟩
theorem sW {p:List C} {x y:Pd}:y∈dq p x↔∃ c∈p,bE c.head=x/\∃ t∈c.body,dg t=true/\bE t=y:=by
 rw [dq,rQ]
 simp
theorem lX:∀ (p:List C) (l:List Pd) (y:Pd),y∈fl l p↔y∈l ∨ ∃ c∈p,bE c.head=y
 | [],l,y=>by simp [fl]
 | c::p,l,y=>by
  have e:fl l (c::p)=fl (ff l (bE c.head)) p:=rfl
  rw [e,lX p,BB]
  constructor
  ·rintro ((h1|h1)|⟨u,h1,h2⟩)
   ·exact .inl h1
   ·exact .inr ⟨c,bq ..,h1.symm⟩
   ·exact .inr ⟨u,bv _ h1,h2⟩
  ·rintro (h1|⟨u,h1,h2⟩)
   ·exact .inl (.inl h1)
   ·rcases cQ.1 h1 with rfl|h1
    ·exact .inl (.inr h2.symm)
    ·exact .inr ⟨u,h1,h2⟩
theorem nL:∀ (p:List C) (l:List Pd),l.Nodup->(fl l p).Nodup
 | [],l,h=>h
 | c::p,l,h=>by
  have e:fl l (c::p)=fl (ff l (bE c.head)) p:=rfl
  rw [e]
  exact nL p _ (E9 h)
theorem Ab {α:Type} [DecidableEq α]:∀ {l m:List α},l.Nodup->(∀ x∈l,x∈m)->l.length<=m.length
 | [],_,_,_=>aR _
 | x::l,m,h,hs=>by
  rw [GK] at h
  have hx:=hs x (bq ..)
  have h1:=Ab (l:=l) (m:=m.erase x) h.2 fun y hy=>by
   have hne:y≠x:=fun e=>h.1 (e ▸ hy)
   exact (List.mem_erase_of_ne hne).2 (hs y (bv _ hy))
  rw [List.length_erase_of_mem hx] at h1
  have:0<m.length:=List.length_pos_of_mem hx
  rw [bk]
  omega

inductive Star (p:List C) (x:Pd):Pd->Prop
 | refl:Star p x x
 | step {y z:Pd}:Star p x y->z∈dq p y->Star p x z
theorem Star.trans {p:List C} {x y z:Pd} (h:Star p x y) (h':Star p y z):Star p x z:=by
 induction h' with
 | refl=>exact h
 | step _ hz ih=>exact .step ih hz
theorem nV:∀ (m l:List Pd) (y:Pd),y∈dL l m↔y∈l ∨ y∈m
 | [],l,y=>by simp [dL]
 | x::m,l,y=>by
  have e:dL l (x::m)=dL (ff l x) m:=rfl
  rw [e,nV m,BB,cQ]
  constructor
  ·rintro ((h|h)|h)
   ·exact .inl h
   ·exact .inr (.inl h)
   ·exact .inr (.inr h)
  ·rintro (h|h|h)
   ·exact .inl (.inl h)
   ·exact .inl (.inr h)
   ·exact .inr h
theorem EP:∀ (m l:List Pd),l.Nodup->(dL l m).Nodup
 | [],_,h=>h
 | _::m,_,h=>EP m _ (E9 h)
theorem Ce:∀ (m l:List Pd),∃ s,dL l m=l++s
 | [],l=>⟨[],by simp [dL]⟩
 | x::m,l=>by
  obtain ⟨s,hs⟩:=Pk l x
  obtain ⟨s',hs'⟩:=Ce m (ff l x)
  have e:dL l (x::m)=dL (ff l x) m:=rfl
  exact ⟨s++s',by rw [e,hs',hs,eI]⟩
theorem AQ {G:List Pd}:∀ (m l:List Pd),(∀ x∈m,x∈G)->(dL l m).length+pot G (dL l m)<=l.length+pot G l
 | [],l,_=>aM _
 | x::m,l,h=>by
  have e:dL l (x::m)=dL (ff l x) m:=rfl
  have h1:=AQ m (ff l x) fun y hy=>h y (bv _ hy)
  have h2:=Bg (l:=l) (h x (bq ..))
  rw [e]
  omega
theorem xQ (p:List C):∀ (n:Nat) (l:List Pd) (i:Nat),l.length+pot (gPs p) l<=n+i->(∀ j (h:j<l.length),j<i->∀ z∈dq p l[j],z∈l)->l.Nodup->
  (fi n p l i).Nodup/\(∀ y∈fi n p l i,∃ x∈l,Star p x y)/\(∀ x∈l,x∈fi n p l i)/\∀ y∈fi n p l i,∀ z∈dq p y,z∈fi n p l i
 | 0,l,i,hn,hc,hd=>by
  simp only [fi]
  refine ⟨hd,fun y hy=>⟨y,hy,.refl⟩,fun x hx=>hx,fun y hy z hz=>?_⟩
  obtain ⟨j,hj,rfl⟩:=Jy.1 hy
  exact hc j hj (by omega) z hz
 | n+1,l,i,hn,hc,hd=>by
  rw [fi]
  split
  ·rename_i hi
   have hp:=AQ (G:=gPs p) (dq p l[i]) l fun x hx=>sN hx
   obtain ⟨s,hs⟩:=Ce (dq p l[i]) l
   obtain ⟨h1,h2,h3,h4⟩:=xQ p n (dL l (dq p l[i])) (i+1) (by omega) (fun j hj hji z hz=>by
    rw [nV]
    have hjl:j<l.length:=by omega
    have ej:(dL l (dq p l[i]))[j]=l[j]:=by
     have:(dL l (dq p l[i]))[j]?=l[j]?:=by rw [hs,vo hjl]
     rw [iR hj,iR hjl] at this
     exact Bc this
    rw [ej] at hz
    by_cases e:j=i
    ·subst e; exact .inr hz
    ·exact .inl (hc j hjl (by omega) z hz)) (EP _ _ hd)
   refine ⟨h1,fun y hy=>?_,fun x hx=>h3 x ((nV _ _ _).2 (.inl hx)),h4⟩
   obtain ⟨x,hx,hxy⟩:=h2 y hy
   rcases (nV _ _ _).1 hx with hx|hx
   ·exact ⟨x,hx,hxy⟩
   ·exact ⟨l[i],bQ hi,Star.trans (.step .refl hx) hxy⟩
  ·refine ⟨hd,fun y hy=>⟨y,hy,.refl⟩,fun x hx=>hx,fun y hy z hz=>?_⟩
   obtain ⟨j,hj,rfl⟩:=Jy.1 hy
   exact hc j hj (by omega) z hz
theorem xI (p:List C) {l:List Pd} (hd:l.Nodup):(fP p l).Nodup/\(∀ y,y∈fP p l↔∃ x∈l,Star p x y)/\∀ y∈fP p l,∀ z∈dq p y,z∈fP p l:=by
 obtain ⟨h1,h2,h3,h4⟩:=xQ p (l.length+(gPs p).length) l 0 (by have:=Le (gPs p) l; omega) (fun j _ h=>by omega) hd
 refine ⟨h1,fun y=>⟨h2 y,?_⟩,h4⟩
 rintro ⟨x,hx,hs⟩
 induction hs with
 | refl=>exact h3 x hx
 | step _ hz ih=>exact h4 _ ih _ hz
theorem nu {p:List C} {l:List Pd} (hd:l.Nodup) {y:Pd}:y∈fP p l↔∃ x∈l,Star p x y:=(xI p hd).2.1 y

theorem GQ (p:List C) (x:Pd):fc (fc p x) x=fc p x:=by
 simp only [fc,List.filter_append,Mv]
 have h1:(p.filter fun a=>(!isP x a) && isP x a)=[]:=by
  rw [Mg]; intro c _; cases isP x c <;> simp
 have h2:(p.filter fun a=>isP x a && !isP x a)=[]:=by
  rw [Mg]; intro c _; cases isP x c <;> simp
 simp only [Bool.and_self,h1,h2,cX,sv]
theorem CB {p:List C} {x:Pd} {c:C}:c∈fc p x↔c∈p:=by
 simp only [fc,cd,Il]
 cases isP x c <;> simp
theorem KB (p:List C) (x:Pd):(fc p x).length=p.length:=by
 have:=HJ p x
 simp only [fc,bh]
 induction p with
 | nil=>rfl
 | cons c p ih=>
  have ih:=ih (HJ p x)
  rw [ow,ow]
  cases isP x c <;> simp <;> omega
theorem Iu {p:List C} (h:ci p=true) (x:Pd):ci (fc p x)=true:=by
 rw [ci,bN,ed,bC] at h ⊢
 exact ⟨by rw [KB]; exact h.1,fun c hc=>h.2 c (CB.1 hc)⟩
theorem Gi {p:List C} (h:ci p=true) (x:Pd):nI (nI p x) x=nI p x/\ci (nI p x)=true/\(zQ (nI p x)).length=(zQ p).length:=by
 have h2:=Iu h x
 have e:nI p x=fc p x:=ai h
 refine ⟨by rw [e,nI,ai h2,GQ],by rw [e]; exact h2,?_⟩
 rw [e,zQ,zQ,ai h,ai h2]
 have hm:∀ y,y∈fl [] (fc p x)↔y∈fl [] p:=fun y=>by
  rw [lX,lX]
  simp only [CB]
 exact Nat.le_antisymm (Ab (nL _ _ Hk) fun y hy=>(hm y).1 hy) (Ab (nL _ _ Hk) fun y hy=>(hm y).2 hy)
end
section
open Go Go.RowKit
theorem tJ {x y:Pd}:eC x y=true↔x=y:=by rw [i0,bC]
theorem EG (f:C->Bool) (P:List C):∀ (p pre:List C),P=pre++p->(ez f p pre.length).map (fun i=>P[i.toNat]?)=(p.filter f).map some
 | [],pre,_=>by simp [ez]
 | c::p,pre,h=>by
  have ih:=EG f P p (pre++[c]) (by rw [h]; simp)
  rw [bh,bk,bG] at ih
  have hc:P[pre.length]?=some c:=by rw [h]; simp
  rw [ez]
  split
  ·rename_i hf
   rw [List.filter_cons_of_pos hf,pj,pj,dF,hc,ih]
  ·rename_i hf
   rw [List.filter_cons_of_neg hf,ih]
theorem tH (p:List C) (t:T):cls p (iz p t)=(p.filter fun c=>eC (bE c.head) (bE t)).map some:=EG _ p p [] rfl
theorem IU {t u:T} (h:sameHd t u):bE u=bE t:=by
 unfold bE
 rw [h.2.1,h.2.2]
theorem Km {t u:T} (h:sameHd t u):fp u=fp t:=by
 unfold fp
 rw [h.1,h.2.1,h.2.2]
theorem FG {t u:T} (h:sameHd t u):cr u=cr t:=by
 unfold cr
 rw [h.1,h.2.1,h.2.2]
theorem DT {p:List C} {t:T} {i:Int} (hi:i∈iz p t) {cl:C} (hcl:p[i.toNat]?=some cl):cl∈p/\bE cl.head=bE t:=by
 obtain ⟨j,_,hj,hlt,hf⟩:=vj _ p 0 i hi
 have:i.toNat=j:=by omega
 rw [this,iR hlt] at hcl
 cases hcl
 exact ⟨bQ hlt,tJ.1 hf⟩
theorem m7 {t:T} (h:eF t=true):t.kind=3:=of_decide_eq_true (NG h)
theorem EH {p:List C} (h:ci p=true) {cl:C} (hc:cl∈p) {b:T} (hb:b∈cl.body):eF b=true:=by
 rw [ci,bN,ed] at h
 have:=h.2 cl hc
 rw [bX,bN,bN,ed] at this
 exact this.2.1 b hb
theorem MW {p s:List C} {R:T->Prop} {q:List T} (h:∀ t∈q,R t):Pt p s R (io q) (io q):=
 ⟨rfl,rfl,⟨rfl,fun i hi=>by simp [io] at hi⟩,rfl,fun g hg=>by
  obtain ⟨t,ht,rfl⟩:=iX.1 hg
  exact h t ht⟩
theorem SolR.sim {p s:List C} {R:T->Prop} {q:List T} {most fuel:Nat} {r:List (List T) × Int} (hA:Alk p s R) (hp:ci p=true) (hs:ci s=true) (hq:bT q=true) (hR:∀ t∈q,R t) (h:SolR p q most fuel r):SolR s q most fuel r:=by
 rcases h with ⟨_,h⟩|⟨h,_⟩
 ·exact .inl ⟨by rw [hs,hq]; rfl,h.sim hA (n8 hp).1 (n8 hs).1 _ (MW hR) (vX hq _) (vX hq _)⟩
 ·rw [hp,hq] at h
  cases h
theorem SolR.bad {p s:List C} {q:List T} {most fuel:Nat} {r:List (List T) × Int} (hp:ci p=true) (hs:ci s=true) (hq:bT q=false) (h:SolR p q most fuel r):SolR s q most fuel r:=by
 rcases h with ⟨h,_⟩|⟨_,h⟩
 ·rw [hp,hq] at h
  cases h
 ·exact .inr ⟨by rw [hs,hq]; rfl,h⟩
theorem GG (p:List C) (x:Pd) (f:C->Bool) (h:(∀ c,f c=true->isP x c=true) ∨ (∀ c,f c=true->isP x c=false)):(fc p x).filter f=p.filter f:=by
 unfold fc
 rw [List.filter_append,Mv,Mv]
 rcases h with h|h
 ·have e1:p.filter (fun c=>f c && !isP x c)=[]:=Mg.2 fun c _ hc=>by
   rw [bN] at hc
   rw [h c hc.1] at hc
   exact absurd hc.2 (by decide)
  have e2:p.filter (fun c=>f c && isP x c)=p.filter f:=OR fun c _=>by
   cases hc:f c with
   | false=>rfl
   | true=>rw [h c hc]; rfl
  rw [e1,e2]
  rfl
 ·have e1:p.filter (fun c=>f c && !isP x c)=p.filter f:=OR fun c _=>by
   cases hc:f c with
   | false=>rfl
   | true=>rw [h c hc]; rfl
  have e2:p.filter (fun c=>f c && isP x c)=[]:=Mg.2 fun c _ hc=>by
   rw [bN] at hc
   rw [h c hc.1] at hc
   exact absurd hc.2 (by decide)
  rw [e1,e2,cX]
theorem M7 {p:List C} (hp:ci p=true) (x:Pd):Alk p (fc p x) fun t=>t.kind=3:=by
 refine ⟨fun t _ _ _=>?_,fun t _ i hi cl hcl b hb=>m7 (EH hp (DT hi hcl).1 hb),fun t u h hs=>by rw [hs.1]; exact h,fun t h=>h⟩
 rw [tH,tH,GG]
 ·by_cases h:bE t=x
  ·left
   intro c hc
   unfold isP
   rw [tJ] at hc ⊢
   rw [hc,h]
  ·right
   intro c hc
   rw [tJ] at hc
   cases hx:isP x c with
   | false=>rfl
   | true=>
    unfold isP at hx
    rw [tJ] at hx
    exact absurd (hc.symm.trans hx) h
theorem SolR.moved {p:List C} {q:List T} {most fuel:Nat} {r:List (List T) × Int} (hp:ci p=true) (x:Pd) (h:SolR p q most fuel r):SolR (nI p x) q most fuel r:=by
 have h2:=(Gi hp x).2.1
 have e:nI p x=fc p x:=ai hp
 rw [e] at h2 ⊢
 cases hq:bT q with
 | false=>exact h.bad hp h2 hq
 | true=>
  refine h.sim (M7 hp x) hp h2 hq fun t ht=>?_
  rw [bT,bN,ed] at hq
  exact m7 (hq.2 t ht)
end
section
open Go Go.RowKit
theorem AR {t:T} (h:eF t=true) (hc:fp t=false) (hb:cr t=false):dg t=true:=by
 rw [eF,hc,hb] at h
 simpa using (Bool.and_eq_true_iff.1 h).2
theorem Nc {h t:T} (hp:dg h=true) (he:bE h=bE t):fp t=false/\cr t=false:=by
 have e1:h.name=t.name:=congrArg Pd.name he
 have e2:(h.kids.length:Int)=(t.kids.length:Int):=congrArg Pd.arity he
 rw [dg,bN,bN,bN] at hp
 obtain ⟨_,hw,hb,_⟩:=hp
 rw [e1] at hw
 rw [e1,e2] at hb
 constructor
 ·cases hc:fp t with
  | false=>rfl
  | true=>
   rw [fp,bN,bN] at hc
   have hn:=of_decide_eq_true hc.2.1
   rw [hn] at hw
   exact absurd hw (by decide +kernel)
 ·rw [cr]
  simp only [oN] at hb
  rw [hb,vq]
theorem Kg {p:List C} (h:ci p=true) {cl:C} (hc:cl∈p):dg cl.head=true:=by
 rw [ci,bN,ed] at h
 have:=h.2 cl hc
 rw [bX,bN,bN,bN] at this
 exact this.2.2.2
abbrev o4 (p:List C) (q:List T):List Pd:=fP p (bW [] q)
theorem BH (q:List T):(bW [] q).Nodup:=EK q [] Hk
theorem Ib {p:List C} {q:List T} {x z:Pd} (hx:x∈o4 p q) (hz:z∈dq p x):z∈o4 p q:=(xI p (BH q)).2.2 x hx z hz
theorem N6 {p:List C} {q:List T} {t:T} (ht:t∈q) (hp:dg t=true):bE t∈o4 p q:=
 (nu (BH q)).2 ⟨bE t,(sC q [] _).2 (.inr ⟨t,ht,hp,rfl⟩),.refl⟩
def slR (p:List C) (q:List T) (t:T):Prop:=t.kind=3/\(fp t=false->cr t=false->bE t∈o4 p q)
theorem MZ {p:List C} (hp:ci p=true) (q:List T):Alk p (p.filter (inP (o4 p q))) (slR p q):=by
 refine ⟨fun t h hc hb=>?_,fun t h i hi cl hcl b hb=>?_,fun t u h hs=>?_,fun t h=>h.1⟩
 ·rw [tH,tH,Mv]
  congr 1
  refine OR fun c _=>?_
  cases hf:eC (bE c.head) (bE t) with
  | false=>rfl
  | true=>
   have hi:inP (o4 p q) c=true:=by
    rw [inP,mi,tJ.1 hf]
    exact h.2 hc hb
   rw [hi]
   rfl
 ·obtain ⟨hm,he⟩:=DT hi hcl
  obtain ⟨n1,n2⟩:=Nc (Kg hp hm) he
  have hg:=EH hp hm hb
  refine ⟨m7 hg,fun hc hbt=>Ib (h.2 n1 n2) (sW.2 ⟨cl,hm,he,b,hb,AR hg hc hbt,rfl⟩)⟩
 ·refine ⟨by rw [hs.1]; exact h.1,fun hc hb=>?_⟩
  rw [Km hs] at hc
  rw [FG hs] at hb
  rw [IU hs]
  exact h.2 hc hb
theorem z8 {p:List C} (hp:ci p=true) (f:C->Bool):ci (p.filter f)=true:=by
 rw [ci,bN,bC,ed] at hp ⊢
 exact ⟨il (IJ f p) hp.1,fun c hc=>hp.2 c (Il.1 hc).1⟩
theorem SolR.sliced {p:List C} {q:List T} {most fuel:Nat} {r:List (List T) × Int} (hv:(ci p && bT q)=true) (h:SolR p q most fuel r):SolR (fw p q) q most fuel r:=by
 have hv':=hv
 rw [bN] at hv'
 have e:fw p q=p.filter (inP (o4 p q)):=ai hv
 rw [e]
 refine h.sim (MZ hv'.1 q) hv'.1 (z8 hv'.1 _) hv'.2 fun t ht=>?_
 have hq:=hv'.2
 rw [bT,bN,ed] at hq
 have hg:=hq.2 t ht
 exact ⟨m7 hg,fun hc hb=>N6 ht (AR hg hc hb)⟩
theorem KM {p:List C} {q:List T} {x y:Pd} (hx:x∈o4 p q) (h:Star p x y):Star (p.filter (inP (o4 p q))) x y/\y∈o4 p q:=by
 induction h with
 | refl=>exact ⟨.refl,hx⟩
 | @step y z _ hz ih=>
  obtain ⟨i1,i2⟩:=ih
  refine ⟨.step i1 ?_,Ib i2 hz⟩
  obtain ⟨c,hc,he,t,ht,hp,hz'⟩:=sW.1 hz
  exact sW.2 ⟨c,Il.2 ⟨hc,by rw [inP,mi,he]; exact i2⟩,he,t,ht,hp,hz'⟩
theorem H8 {p:List C} {q:List T} (hv:(ci p && bT q)=true):(ci (fw p q) && bT q)=true/\fw (fw p q) q=fw p q:=by
 have hv':=hv
 rw [bN] at hv'
 have e:fw p q=p.filter (inP (o4 p q)):=ai hv
 have h2:(ci (p.filter (inP (o4 p q))) && bT q)=true:=by rw [z8 hv'.1 _,hv'.2]; rfl
 rw [e]
 refine ⟨h2,?_⟩
 show (if (ci (p.filter (inP (o4 p q))) && bT q)=true then (p.filter (inP (o4 p q))).filter (inP (o4 (p.filter (inP (o4 p q))) q)) else [])=_
 rw [ai h2,List.filter_eq_self]
 intro c hc
 have hin:=(Il.1 hc).2
 rw [inP,mi] at hin
 obtain ⟨x,hx,hst⟩:=(nu (BH q)).1 hin
 rw [inP,mi]
 refine (nu (BH q)).2 ⟨x,hx,(KM ?_ hst).1⟩
 exact (nu (BH q)).2 ⟨x,hx,.refl⟩
end
section
open Go Go.RowKit
section
variable {w:World} {K:Value->World->Prop}
attribute [local irreducible] Run
theorem Lg {sb:Nat} {p1 p2:Option Addr} {n1 n2 m1 m2:Nat} {fuel:Int} {b:Bool}
  (hk:K (.agg #[.pointer (some ⟨sb,0,none⟩),.slice p1 n1 m1,.slice p2 n2 m2,.bool b,.bool false,.int .i64 fuel,.int .i64 0,.int .i64 26,.pointer none,.slice none 0 0,.slice none 0 0,.int .i64 0]) w) :
  Run Tryz.prog (cn mY [(0,.pointer (some ⟨sb,0,none⟩)),(1,.slice p1 n1 m1),(2,.slice p2 n2 m2),(5,.int .i64 fuel),(3,.bool b),(7,.int .i64 26)]) w K:=by
 refine Run.of (v:=.agg #[.pointer (some ⟨sb,0,none⟩),.slice p1 n1 m1,.slice p2 n2 m2,.bool b,.bool false,.int .i64 fuel,.int .i64 0,.int .i64 26,.pointer none,.slice none 0 0,.slice none 0 0,.int .i64 0]) (w':=w) ?_ hk
 unfold cn
 rw [Sem.run_bind,run_build w mY _ #[.pointer (some ⟨sb,0,none⟩),.slice p1 n1 m1,.slice p2 n2 m2,.bool b,.bool false,.int .i64 fuel,.int .i64 0,.int .i64 26,.pointer none,.slice none 0 0,.slice none 0 0,.int .i64 0] (by kernel_rfl),Result.andThen_ok]
 rfl
end
section
attribute [local irreducible] Run CondV aq aK
theorem Inv.rowLeM {w0 w:World} {X:List Nat} {L:List Item} {S:ad} (h:Inv w0 X L S w) {i k n:Nat} {e:TypeId} {v:Value} {xs:List Value} (hi:L[i]?=some (.row v e k n xs)):n<=maxLen:=by
 have hm:w.ownsRow 0 e k v n xs:=h.its (.row v e k n xs) (du hi)
 rcases hm.2 with ⟨rfl,hn⟩|⟨g,cap,cur,rfl,_,_,hn,hc,_⟩
 ·rw [hn]; exact aR _
 ·exact il hn hc
theorem zh {p:List C} {q:List T} {S:ad} {pv qv:Value} (h4:RdSl S 5 (RdC S) pv p) (hq:RdSl S 4 (RdT S) qv q) (fuel:Int) :
  Tri Tryz.prog Df [pv,qv,.int .i64 fuel,.bool false] [] S fun x I' S'=>∃ sp sb mb gv,x=.pointer (some ⟨sp,0,none⟩)/\GL S' gv (io q).goals/\
   I'=qd sp sb mb pv qv false fuel 0 26 gv (.slice none 0 0) [] (.slice none 0 0) [] 0 #[] 0 (.slice none 0 0) []:=by
 intro w hI
 obtain ⟨pa,pcap,rfl,-⟩:=id h4
 obtain ⟨qa,qcap,rfl,-⟩:=id hq
 refine pR.2 ?_
 dsimp only[pR,jr]
 refine Run.call0 De CS hI (Av S) fun v' I' S' w'=>?_
 rintro ⟨rfl,sb,mb,rfl,rfl⟩ _ hI
 refine Lg ?_
 refine bp hI fun sp w' hI=>?_
 refine Run.call0E JE Jl hI (EW (cut:=0) (up:=-1) hq GL.nil) fun v' I' S1 w'=>?_
 rintro ⟨rfl,hG⟩ hE1 hI
 have hI:=hI.sub (dn _ _)
 obtain ⟨gp,rfl⟩:=hG.ptr
 refine ar ?_
 refine cT hI 3 rfl fR dj rfl rfl rfl fun w' hI=>?_
 have hI:=(hI.rowNil dB 9).rowNil jw 6
 have hI:Inv w [] (au sb mb #[] 0 (.slice none 0 0) []++[eJ sp (dt sb (.slice pa p.length pcap) (.slice qa q.length qcap) false fuel 0 26 (.pointer gp) (.slice none 0 0) (.slice none 0 0) 0),chI (.slice none 0 0) [],noI (.slice none 0 0) []]) S1 w':=hI
 refine ⟨_,_,S1,rfl,hI.perm (co (l₂:=au sb mb #[] 0 (.slice none 0 0) [])),hE1,sp,sb,mb,.pointer gp,rfl,?_,rfl⟩
 rw [cX] at hG
 exact hG
theorem BG {p:List C} {q:List T} {S:ad} {pv qv:Value} (h4:RdSl S 5 (RdC S) pv p) (hq:RdSl S 4 (RdT S) qv q) {most fuel:Nat} (hm:most<=20) (hf:fuel<=300) :
  Pure Tryz.prog Fb [pv,qv,.int .i64 (most:Int),.int .i64 (fuel:Int)] S (.bool (ci p && bT q)):=by
 intro w hI
 refine sj.2 ?_
 dsimp only[sj,jr]
 refine Run.callPure hH g9 hI (gi h4) fun w' hI=>?_
 have e1:(decide ((0:Int)<=(most:Int)) && decide ((most:Int)<=20))=true:=by simp; omega
 have e2:(decide ((0:Int)<=(fuel:Int)) && decide ((fuel:Int)<=300))=true:=by simp; omega
 cases hp:ci p
 ·refine rpG ?_
  exact done hI rfl
 ·refine rpG ?_
  refine Run.callPure jh je hI (gS hq) fun w' hI=>?_
  cases hqv:bT q
  ·refine rpG ?_
   exact done hI rfl
  ·refine rpG ?_
   refine Run.callPure fE fL hI (fa _ _ _ S) fun w' hI=>?_
   rw [e1]
   refine rpG ?_
   refine Run.callPure fE fL hI (fa _ _ _ S) fun w' hI=>?_
   rw [e2]
   refine rpG ?_
   exact done hI rfl
set_option maxHeartbeats 2000000 in
theorem H2 {p:List C} {q:List T} {S:ad} {pv qv:Value} (h4:RdSl S 5 (RdC S) pv p) (hq:RdSl S 4 (RdT S) qv q) {most fuel:Nat} (hm:most<=20) (hf:fuel<=300) {r:List (List T) × Int} (hr:SolR p q most fuel r) :
  Tri Tryz.prog Ni [pv,qv,.int .i64 (most:Int),.int .i64 (fuel:Int),.bool false] [] S fun x I' S'=>I'=[]/\∃ v,x=.tuple #[v,.int .i64 r.2]/\RdSl S' 1 (RdAns S') v r.1:=by
 intro w hI
 refine AF.2 ?_
 dsimp only[AF,EC]
 refine Run.callPure Do DH hI (BG h4 hq hm hf) fun w' hI=>?_
 refine ct ?_
 rcases hr with ⟨hb,hr⟩|⟨hb,rfl⟩
 ·rw [hb]
  refine aw (fun h=>by cases h) (fun _=>?_)
  have hb':=hb
  rw [bN] at hb'
  obtain ⟨f1,f2,f3⟩:=n8 hb'.1
  obtain ⟨g1,g2,g3⟩:=Bt hb'.2
  refine Run.call0E Cw Ax hI (zh h4 hq fuel) fun v' I' S1 w'=>?_
  rintro ⟨sp,sb,mb,gv,rfl,hG,rfl⟩ hE1 hI
  have hso:=vX hb'.2 p.length
  have hsl:(io q).st.length=26:=by show (List.replicate 26 (none:Option T)).length=26; simp
  have hK:SeaK S1 (io q).chs (io q).nodes (io q).st [] [] #[] [] []:=by
   refine ⟨KnownM.none S1 26,Rows.nil _ _,Rows.nil _ _,.nil,?_⟩
   show ([]:List Int).length+unb (List.replicate 26 none)<=(List.replicate 26 (none:Option T)).length
   rw [Ai]
   simp
  have hmul:26 * p.length * (fuel+1)<=520 * 301:=Nat.mul_le_mul (by omega) (by omega)
  have hRK:Sf p fuel (io q):=by
   refine ⟨hso,by omega,?_,?_,?_⟩
   ·rw [hsl]
    show 26+26 * 0+_<=_
    omega
   ·show 0+fuel<=_
    omega
   ·show 0+fuel<=_
    omega
  refine Run.callE (A:=[]) zM zp hI (by
   have:=NQ f1 f2 (by omega) (by omega) hr hRK g1 g2 (by omega) (fuel:=fuel) (used:=0) (EE _) (by omega) (by omega) (h4.monoC hE1.1) (hq.monoT hE1.1) hG hK (sp:=sp) (sb:=sb) (mb:=mb) (ck:=0) (mo:=0) (cv:=.slice none 0 0) (nv:=.slice none 0 0) (tv:=.slice none 0 0)
   rw [hsl] at this
   exact this) fun v' I' S2 w'=>?_
  rintro ⟨v,css,rfl,rfl,hR⟩ hE2 hI
  have hsm:=hr.small f1 g1 g2 hso (by omega) (by simp)
  refine al rfl ?_
  refine al rfl ?_
  refine iI hI 0 rfl eq ?_
  have hcl:=hR.hc
  have hE12:=hE1.trans hE2
  have hI:Inv w [] [aE v dH 1 css] S2 w':=hI
  refine ⟨fun i w'=>∃ (k:Nat) (css':List (List Value)) (S3:ad),k<=css.length/\i=.int .i64 (k:Int)/\css'.length=css.length/\Ext w.heap.size [] S2 S3/\Rows 1 (RdAns S3) css' r.1/\Inv w [] [.row v dH 1 css.length css'.flatten] S3 w',
   fun i _=>css.length - (intOf i).toNat,⟨0,css,S2,aR _,rfl,rfl,Ext.refl _ _ _,hR,hI⟩,?_⟩
  clear hI
  intro ii _ _ _ _ _ _ _ _ _ _ _ _ _ _ w'
  rintro ⟨k,css',S3,hk,rfl,hll,hE3,hR3,hI⟩
  refine bL ?_
  refine aH (fun hki=>?_) (fun hki=>?_)
  ·have hk':k<css'.length:=by omega
   have hkr:k<r.1.length:=by omega
   have hle:=hI.rowLeM (i:=0) rfl
   simp only [maxLen] at hle
   rw [<- hll] at hI
   obtain ⟨u,hu,hus⟩:=hR3.hR k hkr hk'
   obtain ⟨g,cap,hv,hcell⟩:=hI.rowPtr (i:=0) rfl hk' hR3.hk
   subst hv
   obtain ⟨ua,ucap,rfl,-⟩:=id hus
   have hans:=hsm _ (bQ hkr)
   refine aD eq hk' ?_
   refine cm (cs:=[.slice ua r.1[k].length ucap]) nE rfl (fun j x hj=>by
    rw [cZ]
    exact hcell j x (by rw [hu]; exact hj)) ?_
   refine aP hI KV fun b15 w' hI=>?_
   refine aA hI 1 rfl nE rfl rfl (by simp [Value.oneCell']) fun w' hI=>?_
   refine ae hI 1 rfl jx ao rfl ?_
   have hI:Inv w [] [aE (.slice (some ⟨g,0,none⟩) css'.length cap) dH 1 css'] S3 _:=hI.sub (dn [_] [_])
   refine Run.call0E oa n7 hI (rV hus hans) fun v' I' S5 w'=>?_
   rintro ⟨rfl,M,rfl,hT⟩ hE5 hI5
   obtain ⟨S9,hI9,hE9,hins⟩:=Inv.pubExt hI5
   have hn:=hT.rd hins fun _ _ _ hi h=>h.rd hi
   obtain ⟨na,ncap,rfl,-⟩:=id hn
   refine aD eq hk' ?_
   refine aC jx ?_
   refine Cf hI9 0 (j:=k) (f:=0) rfl ao hk' (by omega) (by omega) hR3.hk rfl rfl fun w' hI=>?_
   have hE59:=hE5.trans hE9
   refine bn (by omega) ?_
   refine ⟨⟨k+1,css'.set k (css'[k].set 0 (.slice na r.1[k].length ncap)),S9,by omega,rfl,by rw [oI,hll],hE3.trans hE59,?_,?_⟩,by simp only [intOf,dF]; omega⟩
   ·have h9:=(hR3.monoR fun _ _=>RdAns.mono hE59.1).set k (cs:=css'[k].set 0 (.slice na r.1[k].length ncap)) (y:=r.1[k]) ⟨_,by rw [hu]; rfl,hn⟩ (by rw [hu]; rfl)
    rwa [KT] at h9
   ·have hI:Inv w [] [aE (.slice (some ⟨g,0,none⟩) css'.length cap) dH 1 (css'.set k (css'[k].set 0 (.slice na r.1[k].length ncap)))] S9 _:=hI
    rw [aE,oI] at hI
    rw [<- hll]
    exact hI
  ·rw [<- hll] at hI
   have hI:Inv w [] ([]++[aE v dH 1 css']) S3 _:=hI
   obtain ⟨S4,hE4,hrd,hI⟩:=hI.lendExt
   exact ⟨_,_,S4,rfl,hI,(hE12.trans hE3).trans hE4,rfl,v,rfl,RowRd.rows (hR3.monoR fun _ _=>RdAns.mono hE4.1) hrd⟩
 ·rw [hb]
  refine aw (fun _=>?_) (fun h=>by cases h)
  exact ⟨_,_,S,rfl,hI,Ext.refl _ _ _,rfl,_,rfl,none,0,rfl,aM _,aR _,.inl rfl⟩
theorem yi {p:List C} {q:List T} {S:ad} {pv qv:Value} (h4:RdSl S 5 (RdC S) pv p) (hq:RdSl S 4 (RdT S) qv q) {most fuel:Nat} (hm:most<=20) (hf:fuel<=300) {r:List (List T) × Int} (hr:SolR p q most fuel r) :
  Tri Tryz.prog M4 [pv,qv,.int .i64 (most:Int),.int .i64 (fuel:Int)] [] S fun x I' S'=>I'=[]/\∃ v,x=.tuple #[v,.int .i64 r.2]/\RdSl S' 1 (RdAns S') v r.1:=by
 intro w hI
 refine B0.2 ?_
 dsimp only[B0,jr]
 refine Run.call0E Lu LO hI (H2 h4 hq hm hf hr) fun v' I' S1 w'=>?_
 rintro ⟨rfl,v,rfl,hR⟩ hE1 hI
 refine al rfl ?_
 refine al rfl ?_
 exact ⟨_,_,S1,rfl,hI,hE1,rfl,v,rfl,hR⟩
end
end
section
open Go Go.RowKit
section
variable {w w0:World} {X:List Nat} {L A:List Item} {S:ad} {K:Value->World->Prop}
attribute [local irreducible] Run CondV aq aK
end
end
section
open Go Go.RowKit
section
variable {w0 w:World} {X:List Nat} {L:List Item} {S:ad} {K:Value->World->Prop} {ys:List Nat} {v:Value}
attribute [local irreducible] Run CondV aq aK
theorem Light.fit {q:List C} (h:Light 30 900 q):q.length+wP q<=1048576:=by
 have:=h.le; omega
theorem Run.pubCB {f:FuncId} {fn:Func} {args:List Value} {l:List C} {b:Bool} (hf:Tryz.prog.funcs[f]?=some fn) (hn:(fn.name == "runtime.NumGoroutine" || fn.body.isNone)=false) (hI:Inv w0 X L S w)
  (hc:Tri Tryz.prog f args [] S (Lc S l b)) (hk:∀ u S' w',Ext w0.heap.size X S S'->RdSl S' 5 (RdC S') u l->Inv w0 X L S' w'->K (.tuple #[u,.bool b]) w'):Run Tryz.prog (er (.func (.func f) #[] #[]) args) w K:=by
 refine Run.call0E hf hn hI hc fun v' I' S' w'=>?_
 rintro ⟨rfl,u,M,rfl,rfl,hT⟩ _ hI
 obtain ⟨S1,hI,hE,hins⟩:=hI.pubExt
 exact hk u S1 w' hE (hT.rd hins fun _ _ _ hi h=>h.rd hi) hI
end
end
end Go.Proofs.YtcpgagfdeflbkaaGreatDoor
