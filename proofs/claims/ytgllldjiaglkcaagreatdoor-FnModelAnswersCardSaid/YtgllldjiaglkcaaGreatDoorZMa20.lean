/- impl.Solve. -/
import Derived.Test.YtgllldjiaglkcaaGreatDoorZMa19
import Derived.Test.YtgllldjiaglkcaaGreatDoorZMa17
import Derived.Test.YtgllldjiaglkcaaGreatDoorZMa4
import Derived.Test.YtgllldjiaglkcaaGreatDoorZMa12
import Derived.Test.YtgllldjiaglkcaaGreatDoorZMa3
import Derived.Test.YtgllldjiaglkcaaGreatDoorZMa15
import Derived.Test.YtgllldjiaglkcaaGreatDoorZMa7
import Derived.Test.YtgllldjiaglkcaaGreatDoorZMa16
namespace Go.Proofs.YtgllldjiaglkcaaGreatDoor
section
open Go Go.RowKit
mutual
theorem ZC (vs:List Int):∀ t:T,wT (pk vs t)<=wT t
 | .mk k n s ks=>by
  rw [pk]
  split
  ·show (0+0+0:Nat)<=_
   omega
  ·have:=Ml vs ks
   rw [wT,wT,l8 vs ks]
   omega
theorem Ml (vs:List Int):∀ ts:List T,wL (gn vs ts)<=wL ts
 | []=>by rw [gn]; exact aR _
 | t::ts=>by
  have h1:=ZC vs t
  have h2:=Ml vs ts
  rw [gn,wL,wL]
  omega
end
def Uh (vs:List T):Prop:=vs.length+wL vs<=1048576
theorem ValsI.small {N:Nat} {st:ao} (hg:Good N st) {vars:List Int} (hv:∀ n∈vars,0<=n/\n<N) (hl:vars.length<=1000) {vs:List T} (h:ValsI st vars (some vs)):Uh vs:=by
 obtain ⟨us,hus,ho⟩:=h
 have hul:=Fp hus
 rw [jH] at hul
 split at ho
 ·rename_i hc
  cases ho
  have hw:=FR (N:=N) (us:=us) fun u hu=>by
   obtain ⟨i,hi,rfl⟩:=Ak hu
   refine ⟨dE.1 hc.1 _ hu,l0 hg (Ij hus i (by rw [jH]; omega) hi) ?_⟩
   rw [Ha]
   exact s7 (hv _ (bA _))
  have:=Ml (bM us []) us
  unfold Uh
  rw [l8]
  omega
 ·cases ho
theorem RunI.small {p:List C} (hp:∀ cl∈p,jP cl) {vars:List Int} (hv:∀ n∈vars,0<=n/\n<26) (hl:vars.length<=1000) {most n:Nat} {s:SI} {out:List (List T)} {r:List (List T) × Int} (h:RunI p vars most n s out r) :
  sx p.length s->26<=s.st.length->(∀ vs∈out,Uh vs)->∀ vs∈r.1,Uh vs:=by
 induction h with
 | fuel=>exact fun _ _ h=>h
 | stop=>exact fun _ _ h=>h
 | more=>exact fun _ _ h=>h
 | large=>exact fun _ _ h=>h
 | step _ hst _ ih=>
  intro hs h26 ho
  obtain ⟨j1,_,_,_,j5⟩:=hst.ok hp hs _ rfl
  exact ih j1 (by omega) ho
 | last _ _ hval _=>
  intro hs h26 ho vs hvs
  rcases bJ.1 hvs with h|h
  ·exact ho vs h
  ·rw [bL.1 h]
   exact hval.small hs.good (fun n hn=>⟨(hv n hn).1,by have:=(hv n hn).2; omega⟩) hl
 | next _ _ hval hb _ ih=>
  intro hs h26 ho
  obtain ⟨j1,_,_,j4⟩:=hb.ok hp hs.chs _ rfl
  refine ih j1 (by omega) fun vs hvs=>?_
  rcases bJ.1 hvs with h|h
  ·exact ho vs h
  ·rw [bL.1 h]
   exact hval.small hs.good (fun n hn=>⟨(hv n hn).1,by have:=(hv n hn).2; omega⟩) hl
def SolR (p:List C) (q:List T) (most fuel:Nat) (r:List (List T) × Int):Prop:=((dx p && eA q)=true/\RunI p (bM q []) most fuel (gC q) [] r) ∨ ((dx p && eA q)=false/\r=([],9))
theorem kz {p:List C} (h:dx p=true):(∀ cl∈p,jP cl)/\(∀ cl∈p,cl.body.length<=1048576)/\p.length<=20:=by
 rw [dx,bw,bk,dE] at h
 exact ⟨fun cl hc=>P6 (h.2 cl hc),fun cl hc=>by have:=(gc (h.2 cl hc)).2.2; omega,h.1⟩
theorem Ds {q:List T} (h:eA q=true):q.length<=6/\(∀ t∈q,cn t=true):=by
 rw [eA,bw,bk,dE] at h
 exact ⟨h.1,fun t ht=>i9 (h.2 t ht)⟩
theorem Gf:∀ {q:List T},(∀ t∈q,cn t=true)->cY q<=120 * (q.length:Int)
 | [],_=>by simp [cY]
 | t::q,h=>by
  have h1:=h t (aT ..)
  rw [cn,bw] at h1
  have h2:eq t<=120:=by simpa using h1.2
  have h3:=Gf fun x hx=>h x (aS _ hx)
  rw [cY,bu]
  omega
theorem mu {q:List T} (h:eA q=true):(∀ n∈bM q [],0<=n/\n<26)/\(bM q []).length<=1000/\cY q<=1000:=by
 obtain ⟨h1,h2⟩:=Ds h
 have h3:=Gf h2
 have h4:=AE q []
 rw [bQ] at h4
 exact ⟨A8 q [] (NO fun t ht=>L4 t (jZ (h2 t ht))) (by simp),by omega,by omega⟩
theorem p8 {q:List T} (h:eA q=true) (m:Nat):sx m (gC q):=VI m fun t ht=>by
 have hv:=(Ds h).2 t ht
 exact ⟨⟨jZ hv,by have:=nO hv; omega⟩,BV hv⟩
theorem SolR.ex (p:List C) (q:List T) (most fuel:Nat):∃ r,SolR p q most fuel r:=by
 by_cases h:(dx p && eA q)=true
 ·have h':=h
  rw [bw] at h'
  obtain ⟨r,hr⟩:=RunI.ex (kz h'.1).1 (mu h'.2).1 most _ fuel (gC q) [] (aR _) (be _) (p8 h'.2 _) (by show 26<=(List.replicate 26 (none:Option T)).length; simp)
  exact ⟨r,.inl ⟨h,hr⟩⟩
 ·exact ⟨_,.inr ⟨by simpa using h,rfl⟩⟩
end
section
open Go Go.RowKit
def cls (p:List C) (l:List Int):List (Option C):=l.map fun i=>p[i.toNat]?
def sameHd (t u:T):Prop:=u.kind=t.kind/\u.name=t.name/\u.kids.length=t.kids.length
structure Alk (p s:List C) (R:T->Prop):Prop where
 for_:∀ t,R t->fw t=false->cz t=false->cls p (iz p t)=cls s (iz s t)
 body:∀ t,R t->∀ i∈iz p t,∀ cl,p[i.toNat]?=some cl->∀ b∈cl.body,R b
 hd:∀ t u,R t->sameHd t u->R u
 three:∀ t,R t->t.kind=3
def Zz (p:List C) (R:T->Prop) (l:List Int):Prop:=∀ i∈l,∀ cl,p[i.toNat]?=some cl->∀ b∈cl.body,R b
structure abn (p s:List C) (R:T->Prop) (c d:CI):Prop where
 goal:d.goal=c.goal
 node:d.node=c.node
 rest:d.rest=c.rest
 left:cls s d.left=cls p c.left
 binds:d.binds=c.binds
 taken:d.taken=c.taken
 rR:∀ g∈c.rest,R g.t
 lR:Zz p R c.left
def simCs (p s:List C) (R:T->Prop) (cs ds:List CI):Prop:=cs.length=ds.length/\∀ i (h:i<cs.length) (h':i<ds.length),abn p s R cs[i] ds[i]
structure Xq (p s:List C) (R:T->Prop) (x y:SI):Prop where
 st:y.st=x.st
 goals:y.goals=x.goals
 chs:simCs p s R x.chs y.chs
 nodes:y.nodes.length=x.nodes.length
 gR:∀ g∈x.goals,R g.t
def adf (p s:List C) (R:T->Prop) (o o':Option HI):Prop:=(o=none/\o'=none) ∨ ∃ r r':HI,o=some r/\o'=some r'/\r'.cl=r.cl/\r'.by_=r.by_/\r'.st=r.st/\cls s r'.l=cls p r.l/\Zz p R r.l/\∀ b∈r.cl.body,R b
def simO (p s:List C) (R:T->Prop) (o o':Option SI):Prop:=(o=none/\o'=none) ∨ ∃ x y,o=some x/\o'=some y/\Xq p s R x y
section
variable {p s:List C} {R:T->Prop}
theorem sameHd.shift (b:Int) (t:T) (h:t.kind≠1):sameHd t (cW b t):=by
 cases t with
 | mk k n m ks=>
  simp only [T.kind] at h
  rw [cW,ah h]
  exact ⟨rfl,rfl,by simp [T.kids,qI]⟩
theorem Ca {st:ao} {t u:T} (h:Res st (.one t u)) (h3:t.kind≠1):sameHd t u:=by
 cases h with
 | @one _ v us hw hl=>
  have hv:v=t:=by
   cases hw with
   | stop _=>rfl
   | step hk _=>exact absurd (dp.1 hk).1 h3
  subst hv
  refine ⟨rfl,rfl,?_⟩
  show us.length=v.kids.length
  have:∀ {ts us:List T},Res st (.list ts us)->us.length=ts.length:=by
   intro ts
   induction ts with
   | nil=>intro us h; cases h; rfl
   | cons t ts ih=>intro us h; cases h with|cons _ h=>rw [bu,bu,ih h]
  exact this hl
theorem mf {l l':List Int} (h:cls s l'=cls p l):l'=[]↔l=[]:=by
 have:=congrArg List.length h
 simp only [cls,jH] at this
 constructor
 ·rintro rfl; exact gr (by simpa using this.symm)
 ·rintro rfl; exact gr (by simpa using this)
theorem TryI.sim {g:T} {l:List Int} {st:ao} {o:Option HI} {n:Nat} (h:TryI p g l st o n):∀ l',cls s l'=cls p l->Zz p R l->(∀ i∈l',0<=i)->∃ o',TryI s g l' st o' n/\adf p s R o o':=by
 induction h with
 | nil=>
  intro l' hl _ _
  obtain rfl:=(mf hl).2 rfl
  exact ⟨none,.nil,.inl ⟨rfl,rfl⟩⟩
 | @hit i l cl st st' hi hu=>
  intro l' hl hok hl0
  cases l' with
  | nil=>simp [cls] at hl
  | cons j l'=>
   obtain ⟨k,rfl⟩:∃ k:Nat,j=(k:Int):=⟨j.toNat,by have:=hl0 j (by simp); omega⟩
   simp only [cls,lx,jp,cV] at hl
   rw [hi] at hl
   exact ⟨_,.hit hl.1 hu,.inr ⟨_,_,rfl,rfl,rfl,rfl,rfl,hl.2,fun x hx=>hok x (aS _ hx),hok i (aT ..) cl (by rw [cV]; exact hi)⟩⟩
 | @miss i l cl st st' o n hi hu _ ih=>
  intro l' hl hok hl0
  cases l' with
  | nil=>simp [cls] at hl
  | cons j l'=>
   obtain ⟨k,rfl⟩:∃ k:Nat,j=(k:Int):=⟨j.toNat,by have:=hl0 j (by simp); omega⟩
   simp only [cls,lx,jp,cV] at hl
   rw [hi] at hl
   obtain ⟨o',h1,h2⟩:=ih l' hl.2 (fun x hx=>hok x (aS _ hx)) fun x hx=>hl0 x (aS _ hx)
   exact ⟨o',.miss hl.1 hu h1,h2⟩
theorem simCs.snoc {cs ds:List CI} {c d:CI} (h:simCs p s R cs ds) (hc:abn p s R c d):simCs p s R (cs++[c]) (ds++[d]):=by
 refine ⟨by simp [h.1],fun i hi hi'=>?_⟩
 by_cases hic:i<cs.length
 ·rw [gt hic,gt (h:=by have:=h.1; omega)]
  exact h.2 i hic _
 ·rw [bx,bu,bQ] at hi
  have h1:=h.1
  obtain rfl:i=cs.length:=by omega
  rw [fP (aR _),fP (by omega)]
  simpa [h1] using hc
theorem simCs.last {cs ds:List CI} {c d:CI} (h:simCs p s R (cs++[c]) (ds++[d])):simCs p s R cs ds/\abn p s R c d:=by
 have h1:cs.length=ds.length:=by have:=h.1; simpa using this
 refine ⟨⟨h1,fun i hi hi'=>?_⟩,?_⟩
 ·have:=h.2 i (by rw [bx]; omega) (by rw [bx]; omega)
  rwa [gt hi,gt hi'] at this
 ·have:=h.2 cs.length (by simp) (by simp [h1])
  rw [fP (aR _),fP (by omega)] at this
  simpa [h1] using this
theorem Px (hR:Alk p s R) {cs ds:List CI} {ns ms:List NI} {g:T} {a:Int} {rest:List GI} {b:ao} {r r':HI} (hcs:simCs p s R cs ds) (hn:ms.length=ns.length) (hr:∀ x∈rest,R x.t)
  (hh:r'.cl=r.cl/\r'.by_=r.by_/\r'.st=r.st/\cls s r'.l=cls p r.l/\Zz p R r.l/\∀ b∈r.cl.body,R b):Xq p s R (i7 cs ns g a rest b r) (i7 ds ms g a rest b r'):=by
 obtain ⟨h1,h2,h3,h4,h5,h6⟩:=hh
 refine ⟨h3,?_,?_,?_,?_⟩
 ·show lQ r'.cl r'.by_ ds.length a rest=lQ r.cl r.by_ cs.length a rest
  rw [h1,h2,hcs.1]
 ·show simCs p s R (cs++(if r.l=[] then [] else [⟨g,a,rest,r.l,b,ns.length⟩])) (ds++(if r'.l=[] then [] else [⟨g,a,rest,r'.l,b,ms.length⟩]))
  by_cases hl:r.l=[]
  ·rw [ai hl,ai ((mf h4).2 hl),dB,dB]; exact hcs
  ·rw [ah hl,ah (fun e=>hl ((mf h4).1 e))]
   exact hcs.snoc ⟨rfl,rfl,rfl,h4,rfl,hn,hr,h5⟩
 ·show (M7 ms a.toNat r'.i).length=(M7 ns a.toNat r.i).length
  rw [yj,yj,hn]
 ·intro x hx
  have hx':x∈lQ r.cl r.by_ cs.length a rest:=hx
  unfold lQ at hx'
  rcases bJ.1 hx' with hx'|hx'
  ·obtain ⟨t,ht,rfl⟩:=eF.1 hx'
   have h3:=hR.three t (h6 t ht)
   exact hR.hd t _ (h6 t ht) (sameHd.shift _ t (by omega))
  ·exact hr x hx'
theorem BackI.sim (hR:Alk p s R) {cs:List CI} {n:Nat} {ns:List NI} {o:Option SI} (h:BackI p cs n ns o):∀ ds ms,simCs p s R cs ds->ms.length=ns.length->(∀ d∈ds,∀ i∈d.left,0<=i)->∃ o',BackI s ds n ms o'/\simO p s R o o':=by
 induction h with
 | nil=>
  intro ds ms hd _ _
  obtain rfl:ds=[]:=gr (by simpa using hd.1.symm)
  exact ⟨none,.nil,.inl ⟨rfl,rfl⟩⟩
 | @hit cs c n m ns r ht=>
  intro ds ms hd hn h0
  obtain ⟨ds',d,rfl⟩:∃ ds' d,ds=ds'++[d]:=⟨ds.dropLast,ds.getLast (by intro e; rw [e] at hd; simp [simCs] at hd),(Ur _).symm⟩
  obtain ⟨h1,h2⟩:=hd.last
  obtain ⟨o',q1,q2⟩:=ht.sim (s:=s) (R:=R) d.left h2.left h2.lR (h0 d (by simp))
  rcases q2 with ⟨q,_⟩|⟨r1,r',e1,rfl,hh⟩
  ·cases q
  simp only [bg] at e1
  subst e1
  have q1:TryI s d.goal d.left (cA d.binds n) (some r') m:=by rw [h2.goal,h2.binds]; exact q1
  refine ⟨_,.hit q1,.inr ⟨_,_,rfl,rfl,?_⟩⟩
  rw [h2.goal,h2.node,h2.rest,h2.binds,h2.taken]
  exact Px hR h1 (by rw [dK,dK,hn]) h2.rR hh
 | @miss cs c n m ns o ht _ ih=>
  intro ds ms hd hn h0
  obtain ⟨ds',d,rfl⟩:∃ ds' d,ds=ds'++[d]:=⟨ds.dropLast,ds.getLast (by intro e; rw [e] at hd; simp [simCs] at hd),(Ur _).symm⟩
  obtain ⟨h1,h2⟩:=hd.last
  obtain ⟨o',q1,q2⟩:=ht.sim (s:=s) (R:=R) d.left h2.left h2.lR (h0 d (by simp))
  rcases q2 with ⟨_,rfl⟩|⟨r1,r',e1,_⟩
  ·have q1:TryI s d.goal d.left (cA d.binds n) none m:=by rw [h2.goal,h2.binds]; exact q1
   obtain ⟨o2,k1,k2⟩:=ih ds' (ms.take d.taken) h1 (by rw [dK,dK,hn,h2.taken]) fun x hx=>h0 x (dg _ hx)
   exact ⟨o2,.miss q1 k1,k2⟩
  ·cases e1
theorem simO.isSome {o o':Option SI} (h:simO p s R o o'):o'.isSome=o.isSome:=by
 rcases h with ⟨rfl,rfl⟩|⟨x,y,rfl,rfl,_⟩ <;> rfl
theorem StepI.sim (hR:Alk p s R) {x y:SI} {o:Option SI} {e:Int} (h:StepI p false x o e) (hs:Xq p s R x y) (h0:∀ d∈y.chs,∀ i∈d.left,0<=i):∃ o',StepI s false y o' e/\simO p s R o o':=by
 have hst:=hs.st
 have hgo:=hs.goals
 have hgR:=hs.gR
 have nd:∀ z:NI,(y.nodes++[z]).length=(x.nodes++[z]).length:=fun z=>by simp [hs.nodes]
 have hRt:∀ {g:GI} {gs:List GI} {t:T},x.goals=g::gs->Res x.st (.one g.t t)->R t:=fun {g gs t} hg ht=>by
  have h1:=hgR g (by rw [hg]; simp)
  have h3:=hR.three _ h1
  exact hR.hd _ _ h1 (Ca ht (by omega))
 cases h with
 | large hg ht hsm=>exact ⟨none,.large (by rw [hgo]; exact hg) (by rw [hst]; exact ht) hsm,.inl ⟨rfl,rfl⟩⟩
 | noCut _ _ _ _ h=>cases h
 | @cut g gs t hg ht hsm hc hnc=>
  refine ⟨_,.cut (by rw [hgo]; exact hg) (by rw [hst]; exact ht) hsm hc rfl,.inr ⟨_,_,rfl,rfl,hst,rfl,?_,nd _,fun z hz=>hgR z (by rw [hg]; exact aS _ hz)⟩⟩
  refine ⟨by rw [dK,dK,hs.chs.1],fun i hi hi'=>?_⟩
  rw [dK] at hi hi'
  rw [DP,DP]
  exact hs.chs.2 i (by omega) (by omega)
 | @solved g gs t st hg ht hsm hc hb hB=>
  exact ⟨_,.solved (by rw [hgo]; exact hg) (by rw [hst]; exact ht) hsm hc hb (by rw [hst]; exact hB),.inr ⟨_,_,rfl,rfl,rfl,rfl,hs.chs,nd _,fun z hz=>hgR z (by rw [hg]; exact aS _ hz)⟩⟩
 | @fail g gs t st o hg ht hsm hc hb hB ho=>
  obtain ⟨o',k1,k2⟩:=ho.sim hR y.chs _ hs.chs (nd ⟨t,g.up,-1⟩) h0
  rw [<- k2.isSome]
  exact ⟨o',.fail (by rw [hgo]; exact hg) (by rw [hst]; exact ht) hsm hc hb (by rw [hst]; exact hB) (by rw [hst]; exact k1),k2⟩
 | err hg ht hsm hc hb hB h1 h2=>exact ⟨none,.err (by rw [hgo]; exact hg) (by rw [hst]; exact ht) hsm hc hb (by rw [hst]; exact hB) h1 h2,.inl ⟨rfl,rfl⟩⟩
 | unknown hg ht hsm hc hb hf=>
  have hf':=hR.for_ _ (hRt hg ht) hc hb
  exact ⟨none,.unknown (by rw [hgo]; exact hg) (by rw [hst]; exact ht) hsm hc hb ((mf hf'.symm).2 hf),.inl ⟨rfl,rfl⟩⟩
 | @took g gs t r m hg ht hsm hc hb hf hT=>
  have hRT:=hRt hg ht
  have hf':=hR.for_ _ hRT hc hb
  obtain ⟨o',q1,q2⟩:=hT.sim (s:=s) (R:=R) (iz s t) hf'.symm (hR.body t hRT) fun i hi=>(re s t i hi).1
  rcases q2 with ⟨q,_⟩|⟨r1,r',e1,rfl,hh⟩
  ·cases q
  simp only [bg] at e1
  subst e1
  refine ⟨_,.took (by rw [hgo]; exact hg) (by rw [hst]; exact ht) hsm hc hb (fun e=>hf ((mf hf'.symm).1 e)) (by rw [hst]; exact q1),.inr ⟨_,_,rfl,rfl,?_⟩⟩
  rw [hst,hs.nodes]
  exact Px hR hs.chs (nd _) (fun z hz=>hgR z (by rw [hg]; exact aS _ hz)) hh
 | @back g gs t m o hg ht hsm hc hb hf hT ho=>
  have hRT:=hRt hg ht
  have hf':=hR.for_ _ hRT hc hb
  obtain ⟨o',q1,q2⟩:=hT.sim (s:=s) (R:=R) (iz s t) hf'.symm (hR.body t hRT) fun i hi=>(re s t i hi).1
  rcases q2 with ⟨_,rfl⟩|⟨r1,r',e1,_⟩
  ·obtain ⟨o2,k1,k2⟩:=ho.sim hR y.chs _ hs.chs (nd ⟨t,g.up,-1⟩) h0
   rw [<- k2.isSome]
   exact ⟨o2,.back (by rw [hgo]; exact hg) (by rw [hst]; exact ht) hsm hc hb (fun e=>hf ((mf hf'.symm).1 e)) (by rw [hst]; exact q1) k1,k2⟩
  ·cases e1
theorem okCs.pos {m n k:Nat} {cs:List CI} (h:okCs m n k cs):∀ d∈cs,∀ i∈d.left,0<=i:=fun d hd i hi=>by
 obtain ⟨j,hj,rfl⟩:=Ak hd
 exact ((h.at_ j hj).1.left i hi).1
theorem RunI.sim (hR:Alk p s R) (hp:∀ cl∈p,jP cl) (hq:∀ cl∈s,jP cl) {vars:List Int} {most n:Nat} {x:SI} {out:List (List T)} {r:List (List T) × Int} (h:RunI p vars most n x out r):∀ y,Xq p s R x y->sx p.length x->sx s.length y->RunI s vars most n y out r:=by
 induction h with
 | fuel hg=>intro y hs _ _; exact .fuel (by rw [hs.goals]; exact hg)
 | stop hg hst=>
  intro y hs _ hy
  obtain ⟨o',k1,k2⟩:=hst.sim hR hs hy.chs.pos
  rcases k2 with ⟨_,rfl⟩|⟨_,_,e,_⟩
  ·exact .stop (by rw [hs.goals]; exact hg) k1
  ·cases e
 | step hg hst _ ih=>
  intro y hs hx hy
  obtain ⟨o',k1,k2⟩:=hst.sim hR hs hy.chs.pos
  rcases k2 with ⟨e,_⟩|⟨x',y',e,rfl,hs'⟩
  ·cases e
  simp only [bg] at e
  subst e
  exact .step (by rw [hs.goals]; exact hg) k1 (ih y' hs' (hst.ok hp hx _ rfl).1 (k1.ok hq hy _ rfl).1)
 | more hg hm=>intro y hs _ _; exact .more (by rw [hs.goals]; exact hg) hm
 | large hg hm hv=>intro y hs _ _; exact .large (by rw [hs.goals]; exact hg) hm (by rw [hs.st]; exact hv)
 | last hg hm hv hb=>
  intro y hs _ hy
  obtain ⟨o',k1,k2⟩:=hb.sim hR y.chs y.nodes hs.chs hs.nodes hy.chs.pos
  rcases k2 with ⟨_,rfl⟩|⟨_,_,e,_⟩
  ·exact .last (by rw [hs.goals]; exact hg) hm (by rw [hs.st]; exact hv) (by rw [hs.st]; exact k1)
  ·cases e
 | next hg hm hv hb _ ih=>
  intro y hs hx hy
  obtain ⟨o',k1,k2⟩:=hb.sim hR y.chs y.nodes hs.chs hs.nodes hy.chs.pos
  rcases k2 with ⟨e,_⟩|⟨x',y',e,rfl,hs'⟩
  ·cases e
  simp only [bg] at e
  subst e
  refine .next (by rw [hs.goals]; exact hg) hm (by rw [hs.st]; exact hv) (by rw [hs.st]; exact k1) (ih y' hs' (hb.ok hp hx.chs _ rfl).1 ?_)
  have hyc:=hy.chs
  rw [hs.st] at hyc
  exact (k1.ok hq hyc _ rfl).1
end
end
section
open Go Go.RowKit
attribute [local irreducible] Run CondV aw aN

def isP (x:Pd) (c:C):Bool:=oI (db c.head) x
def gd (p:List C) (x:Pd):List C:=(p.filter fun c=>!isP x c)++p.filter (isP x)
def qS (p:List C) (x:Pd):List C:=if dx p=true then gd p x else []
theorem QA (p:List C) (x:Pd):(gd p x).length+wP (gd p x)=p.length+wP p:=by
 have:=Lt (isP x) p
 rw [gd,LD,bx]
 omega
end
section
open Go Go.RowKit
attribute [local irreducible] Run CondV aw aN

def inP (l:List Pd) (c:C):Bool:=F1 l (db c.head)
def U5 (p:List C) (q:List T):List C:=if (dx p && eA q)=true then p.filter (inP (xQ p (iw [] q))) else []
end
section
open Go Go.RowKit

theorem F9 {l:List Pd} {x:Pd}:F1 l x=true↔x∈l:=by
 simp [F1,pZ]
theorem Ho {l:List Pd} {x y:Pd}:y∈mH l x↔y∈l ∨ y=x:=by
 unfold mH
 split
 ·rename_i h
  rw [F9] at h
  exact ⟨.inl,fun h'=>h'.elim id fun e=>e ▸ h⟩
 ·simp
theorem Ng {l:List Pd} {x:Pd} (h:l.Nodup):(mH l x).Nodup:=by
 unfold mH
 split
 ·exact h
 ·rename_i hx
  rw [F9] at hx
  rw [oN]
  refine ⟨h,by simp,fun a ha b hb e=>?_⟩
  simp at hb
  subst hb
  subst e
  exact hx ha
theorem Yl (l:List Pd) (x:Pd):∃ s,mH l x=l++s:=by
 unfold mH
 split
 ·exact ⟨[],by simp⟩
 ·exact ⟨[x],rfl⟩
theorem wR:∀ (ts:List T) (l:List Pd) (y:Pd),y∈iw l ts↔y∈l ∨ ∃ t∈ts,cF t=true/\db t=y
 | [],l,y=>by simp [iw]
 | t::ts,l,y=>by
  have e:iw l (t::ts)=iw (if cF t=true then mH l (db t) else l) ts:=rfl
  rw [e,wR ts]
  split
  ·rename_i h
   rw [Ho]
   constructor
   ·rintro ((h1|h1)|⟨u,h1,h2⟩)
    ·exact .inl h1
    ·exact .inr ⟨t,aT ..,h,h1.symm⟩
    ·exact .inr ⟨u,aS _ h1,h2⟩
   ·rintro (h1|⟨u,h1,h2,h3⟩)
    ·exact .inl (.inl h1)
    ·rcases bG.1 h1 with rfl|h1
     ·exact .inl (.inr h3.symm)
     ·exact .inr ⟨u,h1,h2,h3⟩
  ·rename_i h
   constructor
   ·rintro (h1|⟨u,h1,h2⟩)
    ·exact .inl h1
    ·exact .inr ⟨u,aS _ h1,h2⟩
   ·rintro (h1|⟨u,h1,h2,h3⟩)
    ·exact .inl h1
    ·rcases bG.1 h1 with rfl|h1
     ·exact absurd h2 h
     ·exact .inr ⟨u,h1,h2,h3⟩
theorem K2:∀ (ts:List T) (l:List Pd),l.Nodup->(iw l ts).Nodup
 | [],l,h=>h
 | t::ts,l,h=>by
  have e:iw l (t::ts)=iw (if cF t=true then mH l (db t) else l) ts:=rfl
  rw [e]
  refine K2 ts _ ?_
  split
  ·exact Ng h
  ·exact h
theorem wB (x:Pd):∀ (p:List C) (l:List Pd) (y:Pd),y∈iT l p x↔y∈l ∨ ∃ c∈p,db c.head=x/\∃ t∈c.body,cF t=true/\db t=y
 | [],l,y=>by simp [iT]
 | c::p,l,y=>by
  have e:iT l (c::p) x=iT (if oI (db c.head) x=true then iw l c.body else l) p x:=rfl
  rw [e,wB x p]
  split
  ·rename_i h
   rw [pZ,bk] at h
   rw [wR]
   constructor
   ·rintro ((h1|h1)|⟨u,h1,h2⟩)
    ·exact .inl h1
    ·exact .inr ⟨c,aT ..,h,h1⟩
    ·exact .inr ⟨u,aS _ h1,h2⟩
   ·rintro (h1|⟨u,h1,h2,h3⟩)
    ·exact .inl (.inl h1)
    ·rcases bG.1 h1 with rfl|h1
     ·exact .inl (.inr h3)
     ·exact .inr ⟨u,h1,h2,h3⟩
  ·rename_i h
   rw [pZ,bk] at h
   constructor
   ·rintro (h1|⟨u,h1,h2⟩)
    ·exact .inl h1
    ·exact .inr ⟨u,aS _ h1,h2⟩
   ·rintro (h1|⟨u,h1,h2,h3⟩)
    ·exact .inl h1
    ·rcases bG.1 h1 with rfl|h1
     ·exact absurd h2 h
     ·exact .inr ⟨u,h1,h2,h3⟩
theorem Tk {p:List C} {x y:Pd}:y∈jo p x↔∃ c∈p,db c.head=x/\∃ t∈c.body,cF t=true/\db t=y:=by
 rw [jo,wB]
 simp
theorem oQ:∀ (p:List C) (l:List Pd) (y:Pd),y∈gx l p↔y∈l ∨ ∃ c∈p,db c.head=y
 | [],l,y=>by simp [gx]
 | c::p,l,y=>by
  have e:gx l (c::p)=gx (mH l (db c.head)) p:=rfl
  rw [e,oQ p,Ho]
  constructor
  ·rintro ((h1|h1)|⟨u,h1,h2⟩)
   ·exact .inl h1
   ·exact .inr ⟨c,aT ..,h1.symm⟩
   ·exact .inr ⟨u,aS _ h1,h2⟩
  ·rintro (h1|⟨u,h1,h2⟩)
   ·exact .inl (.inl h1)
   ·rcases bG.1 h1 with rfl|h1
    ·exact .inl (.inr h2.symm)
    ·exact .inr ⟨u,h1,h2⟩
theorem qK:∀ (p:List C) (l:List Pd),l.Nodup->(gx l p).Nodup
 | [],l,h=>h
 | c::p,l,h=>by
  have e:gx l (c::p)=gx (mH l (db c.head)) p:=rfl
  rw [e]
  exact qK p _ (Ng h)
theorem F6 {α:Type} [DecidableEq α]:∀ {l m:List α},l.Nodup->(∀ x∈l,x∈m)->l.length<=m.length
 | [],_,_,_=>be _
 | x::l,m,h,hs=>by
  rw [BC] at h
  have hx:=hs x (aT ..)
  have h1:=F6 (l:=l) (m:=m.erase x) h.2 fun y hy=>by
   have hne:y≠x:=fun e=>h.1 (e ▸ hy)
   exact (List.mem_erase_of_ne hne).2 (hs y (aS _ hy))
  rw [List.length_erase_of_mem hx] at h1
  have:0<m.length:=List.length_pos_of_mem hx
  rw [bu]
  omega

inductive Star (p:List C) (x:Pd):Pd->Prop
 | refl:Star p x x
 | step {y z:Pd}:Star p x y->z∈jo p y->Star p x z
theorem Star.trans {p:List C} {x y z:Pd} (h:Star p x y) (h':Star p y z):Star p x z:=by
 induction h' with
 | refl=>exact h
 | step _ hz ih=>exact .step ih hz
theorem rh:∀ (m l:List Pd) (y:Pd),y∈gM l m↔y∈l ∨ y∈m
 | [],l,y=>by simp [gM]
 | x::m,l,y=>by
  have e:gM l (x::m)=gM (mH l x) m:=rfl
  rw [e,rh m,Ho,bG]
  constructor
  ·rintro ((h|h)|h)
   ·exact .inl h
   ·exact .inr (.inl h)
   ·exact .inr (.inr h)
  ·rintro (h|h|h)
   ·exact .inl (.inl h)
   ·exact .inl (.inr h)
   ·exact .inr h
theorem Kf:∀ (m l:List Pd),l.Nodup->(gM l m).Nodup
 | [],_,h=>h
 | _::m,_,h=>Kf m _ (Ng h)
theorem HS:∀ (m l:List Pd),∃ s,gM l m=l++s
 | [],l=>⟨[],by simp [gM]⟩
 | x::m,l=>by
  obtain ⟨s,hs⟩:=Yl l x
  obtain ⟨s',hs'⟩:=HS m (mH l x)
  have e:gM l (x::m)=gM (mH l x) m:=rfl
  exact ⟨s++s',by rw [e,hs',hs,eW]⟩
theorem HK {G:List Pd}:∀ (m l:List Pd),(∀ x∈m,x∈G)->(gM l m).length+pot G (gM l m)<=l.length+pot G l
 | [],l,_=>aR _
 | x::m,l,h=>by
  have e:gM l (x::m)=gM (mH l x) m:=rfl
  have h1:=HK m (mH l x) fun y hy=>h y (aS _ hy)
  have h2:=W6 (l:=l) (h x (aT ..))
  rw [e]
  omega
theorem C1 (p:List C):∀ (n:Nat) (l:List Pd) (i:Nat),l.length+pot (gPs p) l<=n+i->(∀ j (h:j<l.length),j<i->∀ z∈jo p l[j],z∈l)->l.Nodup->
  (rg n p l i).Nodup/\(∀ y∈rg n p l i,∃ x∈l,Star p x y)/\(∀ x∈l,x∈rg n p l i)/\∀ y∈rg n p l i,∀ z∈jo p y,z∈rg n p l i
 | 0,l,i,hn,hc,hd=>by
  simp only [rg]
  refine ⟨hd,fun y hy=>⟨y,hy,.refl⟩,fun x hx=>hx,fun y hy z hz=>?_⟩
  obtain ⟨j,hj,rfl⟩:=Cx.1 hy
  exact hc j hj (by omega) z hz
 | n+1,l,i,hn,hc,hd=>by
  rw [rg]
  split
  ·rename_i hi
   have hp:=HK (G:=gPs p) (jo p l[i]) l fun x hx=>R4 hx
   obtain ⟨s,hs⟩:=HS (jo p l[i]) l
   obtain ⟨h1,h2,h3,h4⟩:=C1 p n (gM l (jo p l[i])) (i+1) (by omega) (fun j hj hji z hz=>by
    rw [rh]
    have hjl:j<l.length:=by omega
    have ej:(gM l (jo p l[i]))[j]=l[j]:=by
     have:(gM l (jo p l[i]))[j]?=l[j]?:=by rw [hs,wy hjl]
     rw [fT hj,fT hjl] at this
     exact HB this
    rw [ej] at hz
    by_cases e:j=i
    ·subst e; exact .inr hz
    ·exact .inl (hc j hjl (by omega) z hz)) (Kf _ _ hd)
   refine ⟨h1,fun y hy=>?_,fun x hx=>h3 x ((rh _ _ _).2 (.inl hx)),h4⟩
   obtain ⟨x,hx,hxy⟩:=h2 y hy
   rcases (rh _ _ _).1 hx with hx|hx
   ·exact ⟨x,hx,hxy⟩
   ·exact ⟨l[i],bA hi,Star.trans (.step .refl hx) hxy⟩
  ·refine ⟨hd,fun y hy=>⟨y,hy,.refl⟩,fun x hx=>hx,fun y hy z hz=>?_⟩
   obtain ⟨j,hj,rfl⟩:=Cx.1 hy
   exact hc j hj (by omega) z hz
theorem Da (p:List C) {l:List Pd} (hd:l.Nodup):(xQ p l).Nodup/\(∀ y,y∈xQ p l↔∃ x∈l,Star p x y)/\∀ y∈xQ p l,∀ z∈jo p y,z∈xQ p l:=by
 obtain ⟨h1,h2,h3,h4⟩:=C1 p (l.length+(gPs p).length) l 0 (by have:=abg (gPs p) l; omega) (fun j _ h=>by omega) hd
 refine ⟨h1,fun y=>⟨h2 y,?_⟩,h4⟩
 rintro ⟨x,hx,hs⟩
 induction hs with
 | refl=>exact h3 x hx
 | step _ hz ih=>exact h4 _ ih _ hz
theorem To {p:List C} {l:List Pd} (hd:l.Nodup) {y:Pd}:y∈xQ p l↔∃ x∈l,Star p x y:=(Da p hd).2.1 y

theorem MD (p:List C) (x:Pd):gd (gd p x) x=gd p x:=by
 simp only [gd,UT,U6]
 have h1:(p.filter fun a=>(!isP x a) && isP x a)=[]:=by
  rw [UR]; intro c _; cases isP x c <;> simp
 have h2:(p.filter fun a=>isP x a && !isP x a)=[]:=by
  rw [UR]; intro c _; cases isP x c <;> simp
 simp only [Bool.and_self,h1,h2,dB,s3]
theorem GF {p:List C} {x:Pd} {c:C}:c∈gd p x↔c∈p:=by
 simp only [gd,bJ,LJ]
 cases isP x c <;> simp
theorem Sk (p:List C) (x:Pd):(gd p x).length=p.length:=by
 have:=QA p x
 simp only [gd,bx]
 induction p with
 | nil=>rfl
 | cons c p ih=>
  have ih:=ih (QA p x)
  rw [lK,lK]
  cases isP x c <;> simp <;> omega
theorem PI {p:List C} (h:dx p=true) (x:Pd):dx (gd p x)=true:=by
 rw [dx,bw,dE,bk] at h ⊢
 exact ⟨by rw [Sk]; exact h.1,fun c hc=>h.2 c (GF.1 hc)⟩
theorem N1 {p:List C} (h:dx p=true) (x:Pd):qS (qS p x) x=qS p x/\dx (qS p x)=true/\(Fi (qS p x)).length=(Fi p).length:=by
 have h2:=PI h x
 have e:qS p x=gd p x:=ai h
 refine ⟨by rw [e,qS,ai h2,MD],by rw [e]; exact h2,?_⟩
 rw [e,Fi,Fi,ai h,ai h2]
 have hm:∀ y,y∈gx [] (gd p x)↔y∈gx [] p:=fun y=>by
  rw [oQ,oQ]
  simp only [GF]
 exact Nat.le_antisymm (F6 (qK _ _ Ia) fun y hy=>(hm y).1 hy) (F6 (qK _ _ Ia) fun y hy=>(hm y).2 hy)
end
section
open Go Go.RowKit
theorem uU {x y:Pd}:oI x y=true↔x=y:=by rw [pZ,bk]
theorem Kx (f:C->Bool) (P:List C):∀ (p pre:List C),P=pre++p->(gW f p pre.length).map (fun i=>P[i.toNat]?)=(p.filter f).map some
 | [],pre,_=>by simp [gW]
 | c::p,pre,h=>by
  have ih:=Kx f P p (pre++[c]) (by rw [h]; simp)
  rw [bx,bu,bQ] at ih
  have hc:P[pre.length]?=some c:=by rw [h]; simp
  rw [gW]
  split
  ·rename_i hf
   rw [List.filter_cons_of_pos hf,lx,lx,cV,hc,ih]
  ·rename_i hf
   rw [List.filter_cons_of_neg hf,ih]
theorem Ab (p:List C) (t:T):cls p (iz p t)=(p.filter fun c=>oI (db c.head) (db t)).map some:=Kx _ p p [] rfl
theorem nT {t u:T} (h:sameHd t u):db u=db t:=by
 unfold db
 rw [h.2.1,h.2.2]
theorem mh {t u:T} (h:sameHd t u):fw u=fw t:=by
 unfold fw
 rw [h.1,h.2.1,h.2.2]
theorem jk {t u:T} (h:sameHd t u):cz u=cz t:=by
 unfold cz
 rw [h.1,h.2.1,h.2.2]
theorem Ku {p:List C} {t:T} {i:Int} (hi:i∈iz p t) {cl:C} (hcl:p[i.toNat]?=some cl):cl∈p/\db cl.head=db t:=by
 obtain ⟨j,_,hj,hlt,hf⟩:=FL _ p 0 i hi
 have:i.toNat=j:=by omega
 rw [this,fT hlt] at hcl
 cases hcl
 exact ⟨bA hlt,uU.1 hf⟩
theorem mQ {t:T} (h:eX t=true):t.kind=3:=of_decide_eq_true (VO h)
theorem Lp {p:List C} (h:dx p=true) {cl:C} (hc:cl∈p) {b:T} (hb:b∈cl.body):eX b=true:=by
 rw [dx,bw,dE] at h
 have:=h.2 cl hc
 rw [bN,bw,bw,dE] at this
 exact this.2.1 b hb
theorem VP {p s:List C} {R:T->Prop} {q:List T} (h:∀ t∈q,R t):Xq p s R (gC q) (gC q):=
 ⟨rfl,rfl,⟨rfl,fun i hi=>by simp [gC] at hi⟩,rfl,fun g hg=>by
  obtain ⟨t,ht,rfl⟩:=eF.1 hg
  exact h t ht⟩
theorem SolR.sim {p s:List C} {R:T->Prop} {q:List T} {most fuel:Nat} {r:List (List T) × Int} (hA:Alk p s R) (hp:dx p=true) (hs:dx s=true) (hq:eA q=true) (hR:∀ t∈q,R t) (h:SolR p q most fuel r):SolR s q most fuel r:=by
 rcases h with ⟨_,h⟩|⟨h,_⟩
 ·exact .inl ⟨by rw [hs,hq]; rfl,h.sim hA (kz hp).1 (kz hs).1 _ (VP hR) (p8 hq _) (p8 hq _)⟩
 ·rw [hp,hq] at h
  cases h
theorem SolR.bad {p s:List C} {q:List T} {most fuel:Nat} {r:List (List T) × Int} (hp:dx p=true) (hs:dx s=true) (hq:eA q=false) (h:SolR p q most fuel r):SolR s q most fuel r:=by
 rcases h with ⟨h,_⟩|⟨_,h⟩
 ·rw [hp,hq] at h
  cases h
 ·exact .inr ⟨by rw [hs,hq]; rfl,h⟩
theorem M0 (p:List C) (x:Pd) (f:C->Bool) (h:(∀ c,f c=true->isP x c=true) ∨ (∀ c,f c=true->isP x c=false)):(gd p x).filter f=p.filter f:=by
 unfold gd
 rw [UT,U6,U6]
 rcases h with h|h
 ·have e1:p.filter (fun c=>f c && !isP x c)=[]:=UR.2 fun c _ hc=>by
   rw [bw] at hc
   rw [h c hc.1] at hc
   exact absurd hc.2 (by decide)
  have e2:p.filter (fun c=>f c && isP x c)=p.filter f:=Yq fun c _=>by
   cases hc:f c with
   | false=>rfl
   | true=>rw [h c hc]; rfl
  rw [e1,e2]
  rfl
 ·have e1:p.filter (fun c=>f c && !isP x c)=p.filter f:=Yq fun c _=>by
   cases hc:f c with
   | false=>rfl
   | true=>rw [h c hc]; rfl
  have e2:p.filter (fun c=>f c && isP x c)=[]:=UR.2 fun c _ hc=>by
   rw [bw] at hc
   rw [h c hc.1] at hc
   exact absurd hc.2 (by decide)
  rw [e1,e2,dB]
theorem Vn {p:List C} (hp:dx p=true) (x:Pd):Alk p (gd p x) fun t=>t.kind=3:=by
 refine ⟨fun t _ _ _=>?_,fun t _ i hi cl hcl b hb=>mQ (Lp hp (Ku hi hcl).1 hb),fun t u h hs=>by rw [hs.1]; exact h,fun t h=>h⟩
 rw [Ab,Ab,M0]
 ·by_cases h:db t=x
  ·left
   intro c hc
   unfold isP
   rw [uU] at hc ⊢
   rw [hc,h]
  ·right
   intro c hc
   rw [uU] at hc
   cases hx:isP x c with
   | false=>rfl
   | true=>
    unfold isP at hx
    rw [uU] at hx
    exact absurd (hc.symm.trans hx) h
theorem SolR.moved {p:List C} {q:List T} {most fuel:Nat} {r:List (List T) × Int} (hp:dx p=true) (x:Pd) (h:SolR p q most fuel r):SolR (qS p x) q most fuel r:=by
 have h2:=(N1 hp x).2.1
 have e:qS p x=gd p x:=ai hp
 rw [e] at h2 ⊢
 cases hq:eA q with
 | false=>exact h.bad hp h2 hq
 | true=>
  refine h.sim (Vn hp x) hp h2 hq fun t ht=>?_
  rw [eA,bw,dE] at hq
  exact mQ (hq.2 t ht)
end
section
open Go Go.RowKit
theorem Hb {t:T} (h:eX t=true) (hc:fw t=false) (hb:cz t=false):cF t=true:=by
 rw [eX,hc,hb] at h
 simpa using (Bool.and_eq_true_iff.1 h).2
theorem K1 {h t:T} (hp:cF h=true) (he:db h=db t):fw t=false/\cz t=false:=by
 have e1:h.name=t.name:=congrArg Pd.name he
 have e2:(h.kids.length:Int)=(t.kids.length:Int):=congrArg Pd.arity he
 rw [cF,bw,bw,bw] at hp
 obtain ⟨_,hw,hb,_⟩:=hp
 rw [e1] at hw
 rw [e1,e2] at hb
 constructor
 ·cases hc:fw t with
  | false=>rfl
  | true=>
   rw [fw,bw,bw] at hc
   have hn:=of_decide_eq_true hc.2.1
   rw [hn] at hw
   exact absurd hw (by decide +kernel)
 ·rw [cz]
  simp only [js] at hb
  rw [hb,lP]
theorem Ti {p:List C} (h:dx p=true) {cl:C} (hc:cl∈p):cF cl.head=true:=by
 rw [dx,bw,dE] at h
 have:=h.2 cl hc
 rw [bN,bw,bw,bw] at this
 exact this.2.2.2
abbrev Tx (p:List C) (q:List T):List Pd:=xQ p (iw [] q)
theorem XV (q:List T):(iw [] q).Nodup:=K2 q [] Ia
theorem XX {p:List C} {q:List T} {x z:Pd} (hx:x∈Tx p q) (hz:z∈jo p x):z∈Tx p q:=(Da p (XV q)).2.2 x hx z hz
theorem XP {p:List C} {q:List T} {t:T} (ht:t∈q) (hp:cF t=true):db t∈Tx p q:=
 (To (XV q)).2 ⟨db t,(wR q [] _).2 (.inr ⟨t,ht,hp,rfl⟩),.refl⟩
def slR (p:List C) (q:List T) (t:T):Prop:=t.kind=3/\(fw t=false->cz t=false->db t∈Tx p q)
theorem VT {p:List C} (hp:dx p=true) (q:List T):Alk p (p.filter (inP (Tx p q))) (slR p q):=by
 refine ⟨fun t h hc hb=>?_,fun t h i hi cl hcl b hb=>?_,fun t u h hs=>?_,fun t h=>h.1⟩
 ·rw [Ab,Ab,U6]
  congr 1
  refine Yq fun c _=>?_
  cases hf:oI (db c.head) (db t) with
  | false=>rfl
  | true=>
   have hi:inP (Tx p q) c=true:=by
    rw [inP,F9,uU.1 hf]
    exact h.2 hc hb
   rw [hi]
   rfl
 ·obtain ⟨hm,he⟩:=Ku hi hcl
  obtain ⟨n1,n2⟩:=K1 (Ti hp hm) he
  have hg:=Lp hp hm hb
  refine ⟨mQ hg,fun hc hbt=>XX (h.2 n1 n2) (Tk.2 ⟨cl,hm,he,b,hb,Hb hg hc hbt,rfl⟩)⟩
 ·refine ⟨by rw [hs.1]; exact h.1,fun hc hb=>?_⟩
  rw [mh hs] at hc
  rw [jk hs] at hb
  rw [nT hs]
  exact h.2 hc hb
theorem TI {p:List C} (hp:dx p=true) (f:C->Bool):dx (p.filter f)=true:=by
 rw [dx,bw,bk,dE] at hp ⊢
 exact ⟨gB (Yb f p) hp.1,fun c hc=>hp.2 c (LJ.1 hc).1⟩
theorem SolR.sliced {p:List C} {q:List T} {most fuel:Nat} {r:List (List T) × Int} (hv:(dx p && eA q)=true) (h:SolR p q most fuel r):SolR (U5 p q) q most fuel r:=by
 have hv':=hv
 rw [bw] at hv'
 have e:U5 p q=p.filter (inP (Tx p q)):=ai hv
 rw [e]
 refine h.sim (VT hv'.1 q) hv'.1 (TI hv'.1 _) hv'.2 fun t ht=>?_
 have hq:=hv'.2
 rw [eA,bw,dE] at hq
 have hg:=hq.2 t ht
 exact ⟨mQ hg,fun hc hb=>XP ht (Hb hg hc hb)⟩
end
section
open Go Go.RowKit
attribute [local irreducible] Run CondV aw aN

def RE (c:C):Bool:=match c.body with
 | []=>false
 | g::_=>cF g
theorem V3 {c:C} (h:RE c=true):∃ g gs,c.body=g::gs/\cF g=true:=by
 unfold RE at h
 split at h
 ·cases h
 ·exact ⟨_,_,‹_›,h⟩
end
section
open Go Go.RowKit
def WO (c d:C):Bool:=bN c && (bN d && RE c)
theorem Ux {c d:C} (h:WO c d=true):bN c=true/\bN d=true/\c.body≠[]:=by
 rw [WO,bw,bw] at h
 obtain ⟨g,gs,e,_⟩:=V3 h.2.2
 exact ⟨h.1,h.2.1,by rw [e]; simp⟩
def RB (c d r:C) (b:Bool):Prop:=(WO c d=false/\r=Up/\b=false) ∨ (WO c d=true/\∃ o,RO c d o/\((abr o=true/\r=clO o/\b=true) ∨ (abr o=false/\r=Up/\b=false)))
theorem RB.ex {c d:C} (hw:wC c<=1048576) (hw2:wC d<=1048576):∃ r b,RB c d r b:=by
 cases hg:WO c d with
 | false=>exact ⟨_,_,.inl ⟨hg,rfl,rfl⟩⟩
 | true=>
  obtain ⟨h1,h2,h3⟩:=Ux hg
  obtain ⟨o,ho⟩:=RO.ex h1 h2 hw hw2 h3
  cases hk:abr o with
  | false=>exact ⟨_,_,.inr ⟨hg,o,ho,.inr ⟨hk,rfl,rfl⟩⟩⟩
  | true=>exact ⟨_,_,.inr ⟨hg,o,ho,.inl ⟨hk,rfl,rfl⟩⟩⟩
theorem Aw:wC Up<=20000:=by decide +kernel
theorem ab5 {c d:C} (h1:bN c=true) (h2:bN d=true) (hw:wC c<=1048576) (hw2:wC d<=1048576) (h3:c.body≠[]) {o:Option (Option C)} (ho:RO c d o):wC (clO o)<=20000:=by
 obtain ⟨r,st,hu,hcase⟩:=ho
 rcases hcase with ⟨_,rfl⟩|⟨_,us,hus,⟨_,rfl⟩|⟨hs,rfl⟩⟩
 ·exact Aw
 ·exact Aw
 ·have hg:=(hu.good GN (Lq h1 h2 hw hw2 h3)).1
  obtain ⟨e1,e2⟩:=l0 hg hus (Od h1 h2)
  have hl:=Vf h1 h2
  have hs2:=N5 hs e1
  show wC (Zf (aal (ofL us)) (ofL us))<=20000
  rw [aaC]
  match us,hs2,e2 with
  | [],_,_=>exact Aw
  | u::us,hs2,e2=>
   rw [wL] at hs2
   rw [bu] at hs2 e2
   simp only [wC,ofL]
   omega
theorem RB.w {c d r:C} {b:Bool} (h:RB c d r b) (hw:wC c<=1048576) (hw2:wC d<=1048576):wC r<=20000:=by
 rcases h with ⟨_,rfl,_⟩|⟨hg,o,ho,⟨_,rfl,_⟩|⟨_,rfl,_⟩⟩
 ·exact Aw
 ·obtain ⟨h1,h2,h3⟩:=Ux hg
  exact ab5 h1 h2 hw hw2 h3 ho
 ·exact Aw
section
attribute [local irreducible] Run CondV aw aN
end
end
section
open Go Go.RowKit
theorem Qj {st:ao} {t v:T} (h:dA st t v):∀ v',dA st t v'->v'=v:=by
 induction h with
 | stop hl=>
  intro v' h'
  cases h' with
  | stop _=>rfl
  | step hl' _=>rw [hl] at hl'; cases hl'
 | step hl _ ih=>
  intro v' h'
  cases h' with
  | stop hl'=>rw [hl] at hl'; cases hl'
  | step hl' h2=>rw [hl] at hl'; cases hl'; exact ih _ h2
theorem ZM {st:ao} {j:Ra} (h:Res st j):match j with
  | .one t u=>∀ u',Res st (.one t u')->u'=u
  | .list ts us=>∀ us',Res st (.list ts us')->us'=us:=by
 induction h with
 | one hw _ ih=>
  intro u' h'
  cases h' with
  | one hw' hl'=>
   obtain rfl:=Qj hw _ hw'
   rw [ih _ hl']
 | nil=>
  intro us' h'
  cases h'
  rfl
 | cons _ _ ih1 ih2=>
  intro us' h'
  cases h' with
  | cons h1 h2=>rw [ih1 _ h1,ih2 _ h2]
open Classical in
noncomputable def sgR (st:ao) (n:Int):T:=if h:∃ u,Res st (.one (idS n) u) then h.choose else idS n
theorem Tj {st:ao} {n:Int} {u:T} (h:Res st (.one (idS n) u)):sgR st n=u:=by
 have he:∃ u,Res st (.one (idS n) u):=⟨u,h⟩
 rw [sgR,dif_pos he]
 exact ZM h _ he.choose_spec
theorem aaJ {N:Nat} {st:ao} {j:Ra} (hr:Res st j):match j with
  | .one t u=>okU N t->u=sbT (sgR st) t
  | .list ts us=>de N ts->us=sbL (sgR st) ts:=by
 induction hr with
 | one hw hl ih=>
  rename_i t v us
  intro ho
  by_cases hk:t.kind=1
  ·obtain ⟨_,_,h3,h4⟩:=ho.var hk
   obtain ⟨k,n,s,ks⟩:=t
   simp only [T.kind,T.name,T.kids] at hk h3 h4
   subst hk; subst h3; subst h4
   rw [sbT,ai rfl]
   exact (Tj (.one hw hl)).symm
  ·have hv:v=t:=Qj (.stop (u9.2 fun e=>absurd e hk)) _ hw
   subst hv
   have h2:=ih ho.kids
   obtain ⟨k,n,s,ks⟩:=v
   simp only [T.kind] at hk
   rw [sbT,ah hk]
   simp only [T.kids] at h2
   rw [h2]
   rfl
 | nil=>exact fun _=>rfl
 | cons _ _ ih1 ih2=>
  intro ho
  rw [de] at ho
  rw [sbL,ih1 ho.1,ih2 ho.2]
end
section
open Go Go.RowKit
def je (σ:Int->T) (st:ao):Prop:=∀ (n:Nat) (u:T),st[n]?=some (some u)->σ n=sbT σ u
mutual
def tsz:T->Nat
 | .mk _ _ _ ks=>1+Zm ks
def Zm:List T->Nat
 | []=>0
 | t::ts=>tsz t+Zm ts
end
theorem iN (σ:Int->T) {t:T} (h:t.kind=1):sbT σ t=σ t.n:=by
 cases t
 rw [sbT]
 exact ai h
theorem eH (σ:Int->T) {t:T} (h:t.kind≠1):sbT σ t=.mk t.kind t.n t.name (sbL σ t.kids):=by
 cases t
 rw [sbT]
 exact ah h
mutual
theorem Z7 {N:Nat} (σ:Int->T):∀ t:T,okU N t->∀ m∈vT t,tsz (σ (m:Int))<=tsz (sbT σ t)
 | .mk k n s ks,h,m,hm=>by
  rw [okU] at h
  rw [vT] at hm
  rw [sbT]
  split at hm
  ·rename_i hk
   obtain ⟨h0,_⟩:=h.2.1 hk
   simp only [bL] at hm
   subst hm
   rw [ai hk,mD h0]
   exact aR _
  ·rename_i hk
   have:=Si σ ks h.2.2.1 m hm
   rw [ah hk,tsz]
   omega
theorem Si {N:Nat} (σ:Int->T):∀ ts:List T,de N ts->∀ m∈vTL ts,tsz (σ (m:Int))<=Zm (sbL σ ts)
 | [],_,m,hm=>by simp [vTL] at hm
 | t::ts,h,m,hm=>by
  rw [de] at h
  rw [vTL,bJ] at hm
  rw [sbL,Zm]
  rcases hm with hm|hm
  ·have:=Z7 σ t h.1 m hm
   omega
  ·have:=Si σ ts h.2 m hm
   omega
end
theorem acL {N:Nat} (σ:Int->T) {t:T} (h:okU N t) (hk:t.kind≠1) {m:Nat} (hm:m∈vT t):tsz (σ (m:Int))<tsz (sbT σ t):=by
 rw [qr hk] at hm
 have:=Si σ t.kids h.kids m hm
 rw [eH σ hk,tsz]
 omega
theorem abd {N:Nat} {st:ao} (hg:Good N st) {σ:Int->T} (hs:je σ st) {m n:Nat} (h:Rch st m n):tsz (σ (n:Int))<=tsz (σ (m:Int)):=by
 induction h with
 | refl=>exact aR _
 | step h1 h2 _ ih=>
  rw [hs _ _ h1]
  exact gB ih (Z7 σ _ (hg.ok _ (b0 h1)) _ h2)
theorem Ym {N:Nat} {st:ao} (hg:Good N st) {σ:Int->T} (hs:je σ st) {n:Nat} {t:T} (ht:okU N t) (hk:t.kind≠1) (ho:iA st n t):σ (n:Int)≠sbT σ t:=by
 obtain ⟨m,hm,hr⟩:=ho
 intro e
 have h1:=abd hg hs hr
 have h2:=acL σ ht hk hm
 rw [e] at h1
 omega
theorem YT {st:ao} {n:Nat} {t:T} (hk:t.kind=1) (hl:look st t=none) (ho:iA st n t):t.n.toNat=n:=by
 obtain ⟨m,hm,hr⟩:=ho
 rw [jx hk,bL] at hm
 subst hm
 cases hr with
 | refl=>rfl
 | step h1 _ _=>rcases u9.1 hl hk with e|e <;> rw [e] at h1 <;> cases h1
theorem gh {N:Nat} {st:ao} (hg:Good N st) {σ:Int->T} (hs:je σ st) {t v:T} (h:dA st t v):okU N t->sbT σ v=sbT σ t:=by
 induction h with
 | stop=>exact fun _=>rfl
 | step hl _ ih=>
  intro ho
  obtain ⟨hk,hst⟩:=dp.1 hl
  have h0:=(ho.var hk).1
  rw [ih (hg.look_ok hl).1,iN σ hk,<- hs _ _ hst,mD h0]
theorem P5 {σ:Int->T} {st:ao} {n:Nat} {t:T} (hn:st[n]?=some none):je σ (st.set n (some t))↔je σ st/\σ (n:Int)=sbT σ t:=by
 have hnl:n<st.length:=(fG.1 hn).1
 constructor
 ·intro h
  refine ⟨fun m u hm=>h m u ?_,h n t (F3 hnl)⟩
  rw [vR (fun e=>by subst e; rw [hn] at hm; cases hm)]
  exact hm
 ·rintro ⟨h,h2⟩ m u hm
  by_cases e:n=m
  ·subst e
   rw [F3 hnl,bg,bg] at hm
   rw [<- hm]; exact h2
  ·rw [vR e] at hm
   exact h m u hm
def Jeq (σ:Int->T):Job->Prop
 | .one a b=>sbT σ a=sbT σ b
 | .list xs ys=>sbL σ xs=sbL σ ys
theorem Ut {σ:Int->T} {a b:T} (ha:a.kind≠1) (hb:b.kind≠1):sbT σ a=sbT σ b↔jM a b=true/\sbL σ a.kids=sbL σ b.kids:=by
 rw [eH σ ha,eH σ hb,T.mk.injEq,G1]
 constructor
 ·rintro ⟨h1,h2,h3,h4⟩
  have:=congrArg List.length h4
  rw [kK,kK] at this
  exact ⟨⟨h1,h2,h3,this⟩,h4⟩
 ·rintro ⟨⟨h1,h2,h3,_⟩,h4⟩
  exact ⟨h1,h2,h3,h4⟩
theorem Uni.sem {N:Nat} {st st':ao} {j:Job} {r:Bool} (hu:Uni st j r st'):Good N st->okJ N j->∀ σ,(r=true->(je σ st'↔je σ st/\Jeq σ j))/\(r=false->je σ st->¬ Jeq σ j):=by
 induction hu with
 | same ha hb h1 h2 he=>
  intro hg hj σ
  refine ⟨fun _=>⟨fun hs=>⟨hs,?_⟩,fun h=>h.1⟩,fun h=>by cases h⟩
  show sbT σ _=sbT σ _
  rw [<- gh hg hs ha hj.1.1,<- gh hg hs hb hj.2.1,iN σ h1,iN σ h2,he]
 | bindA ha hb hk hns ho=>
  intro hg hj σ
  have o1:=(ek hg ha hj.1).1
  have h0:=(o1.var hk).1
  rw [P5 (qn hg hk (iZ ha) o1),mD h0]
  refine ⟨fun _=>and_congr_right fun hs=>?_,fun h=>by cases h⟩
  show _↔sbT σ _=sbT σ _
  rw [<- gh hg hs ha hj.1.1,<- gh hg hs hb hj.2.1,iN σ hk]
 | occA ha hb hk hns ho=>
  rename_i st a b a' b'
  intro hg hj σ
  refine ⟨fun h=>(by cases h),fun _ hs=>?_⟩
  have o1:=(ek hg ha hj.1).1
  have o2:=(ek hg hb hj.2).1
  have h0:=(o1.var hk).1
  show ¬ sbT σ _=sbT σ _
  rw [<- gh hg hs ha hj.1.1,<- gh hg hs hb hj.2.1,iN σ hk]
  by_cases hb1:b'.kind=1
  ·have e:=YT hb1 (iZ hb) ho
   have h1:=(o2.var hb1).1
   exact absurd ⟨hb1,by omega⟩ hns
  ·have:=Ym hg hs o2 hb1 ho
   rwa [mD h0] at this
 | bindB ha hb hns hk ho=>
  intro hg hj σ
  have o1:=(ek hg hb hj.2).1
  have h0:=(o1.var hk).1
  rw [P5 (qn hg hk (iZ hb) o1),mD h0]
  refine ⟨fun _=>and_congr_right fun hs=>?_,fun h=>by cases h⟩
  show _↔sbT σ _=sbT σ _
  rw [<- gh hg hs ha hj.1.1,<- gh hg hs hb hj.2.1,iN σ hk]
  exact xH
 | occB ha hb hns hk ho=>
  intro hg hj σ
  refine ⟨fun h=>(by cases h),fun _ hs=>?_⟩
  have o1:=(ek hg hb hj.2).1
  have o2:=(ek hg ha hj.1).1
  have h0:=(o1.var hk).1
  show ¬ sbT σ _=sbT σ _
  rw [<- gh hg hs ha hj.1.1,<- gh hg hs hb hj.2.1,iN σ hk]
  have:=Ym hg hs o2 hns ho
  rw [mD h0] at this
  exact fun e=>this e.symm
 | clash ha hb h1 h2 hd=>
  intro hg hj σ
  refine ⟨fun h=>(by cases h),fun _ hs=>?_⟩
  show ¬ sbT σ _=sbT σ _
  rw [<- gh hg hs ha hj.1.1,<- gh hg hs hb hj.2.1,Ut h1 h2,hd]
  exact fun e=>by cases e.1
 | @kids st st' a b a' b' r ha hb h1 h2 hd _ ih=>
  intro hg hj σ
  obtain ⟨i1,i2⟩:=ih hg ⟨kP (ek hg ha hj.1),kP (ek hg hb hj.2),tk hd⟩ σ
  have e:je σ st->(Jeq σ (.one a b)↔Jeq σ (.list a'.kids b'.kids)):=fun hs=>by
   show sbT σ a=sbT σ b↔sbL σ a'.kids=sbL σ b'.kids
   rw [<- gh hg hs ha hj.1.1,<- gh hg hs hb hj.2.1,Ut h1 h2,hd]
   simp
  exact ⟨fun hr=>(i1 hr).trans (and_congr_right fun hs=>(e hs).symm),fun hr hs hq=>i2 hr hs ((e hs).1 hq)⟩
 | nil=>
  intro hg hj σ
  exact ⟨fun _=>⟨fun h=>⟨h,rfl⟩,fun h=>h.1⟩,fun h=>by cases h⟩
 | stop _ ih=>
  intro hg hj σ
  obtain ⟨_,i2⟩:=ih hg ⟨hj.1 _ (aT ..),hj.2.1 _ (aT ..)⟩ σ
  refine ⟨fun h=>(by cases h),fun _ hs hq=>i2 rfl hs ?_⟩
  have hq:sbL σ (_::_)=sbL σ (_::_):=hq
  rw [sbL,sbL,jp] at hq
  exact hq.1
 | @go st st1 st' a b xs ys r h1 _ ih1 ih2=>
  intro hg hj σ
  have j1:okJ N (.one a b):=⟨hj.1 _ (aT ..),hj.2.1 _ (aT ..)⟩
  have j2:okJ N (.list xs ys):=⟨fun a ha=>hj.1 a (aS _ ha),fun b hb=>hj.2.1 b (aS _ hb),by have:=hj.2.2; simpa using this⟩
  obtain ⟨i1,_⟩:=ih1 hg j1 σ
  obtain ⟨i3,i4⟩:=ih2 (h1.good hg j1).1 j2 σ
  have e:Jeq σ (.list (a::xs) (b::ys))↔Jeq σ (.one a b)/\Jeq σ (.list xs ys):=by
   show sbL σ (a::xs)=sbL σ (b::ys)↔_
   rw [sbL,sbL,jp]
   exact Iff.rfl
  refine ⟨fun hr=>?_,fun hr hs hq=>?_⟩
  ·rw [i3 hr,i1 rfl,e,and_assoc]
  ·rw [e] at hq
   exact i4 hr ((i1 rfl).2 ⟨hs,hq.1⟩) hq.2
theorem YS {N:Nat} {st:ao} (hg:Good N st) (κ:Int->T):je (fun n=>sbT κ (sgR st n)) st:=by
 intro n u hn
 have ho:=hg.ok u (b0 hn)
 obtain ⟨r,hr⟩:=SR hg u ho
 have hr':Res st (.one (idS (n:Int)) r):=by
  cases hr with
  | one hw hl=>exact .one (.step (dp.2 ⟨rfl,by rw [idS]; exact hn⟩) hw) hl
 show sbT κ (sgR st n)=_
 rw [Tj hr',aaJ hr ho,zp]
theorem MY {N:Nat} {st:ao} (hg:Good N st) {σ:Int->T} (hs:je σ st) {j:Ra} (hr:Res st j):match j with
  | .one t u=>okU N t->sbT σ u=sbT σ t
  | .list ts us=>de N ts->sbL σ us=sbL σ ts:=by
 induction hr with
 | one hw hl ih=>
  rename_i t v us
  intro ho
  have hv:=Ih hg hw ho
  rw [<- gh hg hs hw ho]
  by_cases hk:v.kind=1
  ·obtain ⟨_,_,h3,h4⟩:=hv.var hk
   rw [iN σ hk,iN σ (t:=.mk v.kind v.n v.name us) hk]
   rfl
  ·rw [eH σ hk,eH σ (t:=.mk v.kind v.n v.name us) hk]
   exact congrArg _ (ih hv.kids)
 | nil=>exact fun _=>rfl
 | cons _ _ ih1 ih2=>
  intro ho
  rw [de] at ho
  rw [sbL,sbL,ih1 ho.1,ih2 ho.2]
mutual
theorem ma {N:Nat} {σ τ:Int->T} (h:∀ n:Int,0<=n->n<N->σ n=τ n):∀ t:T,okU N t->sbT σ t=sbT τ t
 | .mk k n s ks,ho=>by
  rw [okU] at ho
  rw [sbT,sbT]
  by_cases hk:k=1
  ·obtain ⟨h0,h1,_⟩:=ho.2.1 hk
   rw [ai hk,ai hk,h n h0 h1]
  ·rw [ah hk,ah hk,Lf h ks ho.2.2.1]
theorem Lf {N:Nat} {σ τ:Int->T} (h:∀ n:Int,0<=n->n<N->σ n=τ n):∀ ts:List T,de N ts->sbL σ ts=sbL τ ts
 | [],_=>rfl
 | t::ts,ho=>by
  rw [de] at ho
  rw [sbL,sbL,ma h t ho.1,Lf h ts ho.2]
end
theorem GC {N:Nat} {st:ao} (hg:Good N st) {σ τ:Int->T} (h:∀ n:Int,0<=n->n<N->σ n=τ n) (hs:je σ st):je τ st:=by
 intro n u hn
 have hlt:=(fG.1 hn).1
 have hl:=hg.len
 rw [<- h n (by omega) (by omega),hs n u hn]
 exact ma h u (hg.ok u (b0 hn))
mutual
theorem u0 (σ:Int->T) (m:Int):∀ t:T,sbT σ (cW m t)=sbT (fun n=>σ (n+m)) t
 | .mk k n s ks=>by
  rw [cW,sbT,sbT]
  by_cases hk:k=1
  ·rw [ai hk,ai hk,ai hk]
  ·rw [ah hk,ah hk,ah hk,KM σ m ks]
theorem KM (σ:Int->T) (m:Int):∀ ts:List T,sbL σ (gj m ts)=sbL (fun n=>σ (n+m)) ts
 | []=>rfl
 | t::ts=>by rw [gj,sbL,sbL,u0 σ m t,KM σ m ts]
end
theorem kr (σ:Int->T) (st:ao) (k:Nat):je σ (st++List.replicate k none)↔je σ st:=by
 constructor
 ·intro h n u hn
  exact h n u (by rw [wy (fG.1 hn).1]; exact hn)
 ·intro h n u hn
  rw [WP] at hn
  split at hn
  ·exact h n u hn
  ·rw [Ll] at hn
   split at hn <;> cases hn
def Om (N:Nat) (σ τ:Int->T):Int->T:=fun n=>if n<N then σ n else τ (n - N)
theorem zD {N:Nat} (σ τ:Int->T):∀ n:Int,0<=n->n<N->σ n=Om N σ τ n:=fun n _ h=>by rw [Om,ai h]
theorem LR {N M:Nat} (σ τ:Int->T) {t:T} (ht:okU M t):sbT (Om N σ τ) (cW N t)=sbT τ t:=by
 rw [u0]
 refine ma (N:=M) (fun n h0 _=>?_) t ht
 rw [Om,ah (by omega)]
 congr 1
 omega
mutual
theorem TR {ws:List Int} {σ ρ:Int->T} (h:∀ n∈ws,ρ (sS ws n)=σ n):∀ t:T,inT ws t->sbT ρ (pk ws t)=sbT σ t
 | .mk k n s ks,hi=>by
  rw [inT] at hi
  rw [pk]
  by_cases hk:k=1
  ·rw [ai hk,sbT,ai rfl,sbT,ai hk,h n (hi.1 hk)]
  ·rw [ah hk,sbT,ah hk,sbT,ah hk,Ic h ks hi.2]
theorem Ic {ws:List Int} {σ ρ:Int->T} (h:∀ n∈ws,ρ (sS ws n)=σ n):∀ ts:List T,inL ws ts->sbL ρ (gn ws ts)=sbL σ ts
 | [],_=>rfl
 | t::ts,hi=>by
  rw [inL] at hi
  rw [gn,sbL,sbL,TR h t hi.1,Ic h ts hi.2]
end
theorem Vm (us:List T) (σ:Int->T):∃ ρ:Int->T,sbL ρ (gn (bM us []) us)=sbL σ us:=by
 refine ⟨fun i=>σ ((bM us []).getD i.toNat 0),Ic (fun n hn=>?_) us (pF us [])⟩
 obtain ⟨i,hi,he,_⟩:=pD hn
 simp only [he,cV,wF,hi,xc]
end
end Go.Proofs.YtgllldjiaglkcaaGreatDoor
