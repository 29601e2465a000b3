/- impl's search in plain Lean: going back, steps and runs exist, and stay good and small. -/
import Derived.Test.YtgllldjiaglkcaaGreatDoorZMp16
import Derived.Test.YtgllldjiaglkcaaGreatDoorZMp12
import Derived.Test.YtgllldjiaglkcaaGreatDoorZMp15
import Derived.Test.YtgllldjiaglkcaaGreatDoorZMp9
namespace Go.Proofs.YtgllldjiaglkcaaGreatDoor
section
open Go Go.RowKit
theorem pd (ns:List NI) (a:Nat) (i:Int):(setN ns a i).length=ns.length:=by simp [setN]
theorem cutsG.body {cl:C} {b:Nat} {k u:Int} {rest:List GI} (h:cutsG rest) (hr:∀ g∈rest,g.cut<=k):cutsG (nX cl b k u rest):=by
 unfold nX cutsG
 rw [QJ]
 refine ⟨?_,h,fun a ha b hb=>?_⟩
 ·rw [List.pairwise_map]
  exact Wj.2 fun _=>Af _
 ·obtain ⟨t,_,rfl⟩:=eU.1 ha
  exact hr b hb
theorem okGI.mono {N M:Nat} (h:N<=M) {g:GI} (hg:okGI N g):okGI M g:=⟨⟨⟨iC h _ hg.1.1.1,hg.1.1.2⟩,hg.1.2⟩,hg.2⟩
theorem To {p:List C} (hp:∀ cl∈p,oP cl) {m:Nat} (hm:m=p.length) {g:T} {l:List Int} {b:al} {r:HI} {n:Nat} (h:TryI p g l b (some r) n) (hg:Good b.length b) (ht:tabM b) (ho:(okU b.length g/\wT g<=1048576)/\okM g)
  {cs:List CI} {ns:List NI} {at_:Int} {rest:List GI} (hl:∀ i∈l,0<=i/\i<p.length) (hat:0<=at_/\at_<ns.length) (hr:∀ g∈rest,okGI b.length g/\g.cut<=cs.length) (hcu:cutsG rest) (hcs:okCs m b.length ns.length cs) :
  xR m (kX cs ns g at_ rest b r)/\(kX cs ns g at_ rest b r).st.length+26 * ir (kX cs ns g at_ rest b r).chs<=b.length+26 * l.length+26 * ir cs/\(kX cs ns g at_ rest b r).nodes.length=ns.length/\b.length<=(kX cs ns g at_ rest b r).st.length:=by
 subst hm
 obtain ⟨h1,_,h3⟩:=h.ok hp hg ht ho
 obtain ⟨a1,a2,a3,a4,a5,a6,a7,a8,a9⟩:=h3 r rfl
 have hcl:=hp _ a1
 have hlen:r.st.length=n:=by omega
 have hchs:okCs p.length n ns.length (cs++(if r.l=[] then [] else [⟨g,at_,rest,r.l,b,ns.length⟩])):=by
  have h0:=hcs.mono (n':=n) (k':=ns.length) h1 (aW _)
  split
  ·rwa [dh]
  ·exact h0.snoc ⟨⟨hg,ht,ho,hr,hcu,fun i hi=>hl i (a9 i hi),hat⟩,h1,rfl⟩
 have hlc:cs.length<=(cs++(if r.l=[] then [] else [(⟨g,at_,rest,r.l,b,ns.length⟩:CI)])).length:=by rw [bA]; omega
 refine ⟨⟨?_,a7,?_,hcu.body fun g hg=>(hr g hg).2,?_⟩,?_,pd _ _ _,by show b.length<=r.st.length; omega⟩
 ·show Good r.st.length r.st
  rw [hlen]; exact a6
 ·intro x hx
  have hx':x∈nX r.cl r.by_ cs.length at_ rest:=hx
  show okGI r.st.length x/\x.cut<=((cs++(if r.l=[] then [] else [(⟨g,at_,rest,r.l,b,ns.length⟩:CI)])).length:Int)
  unfold nX at hx'
  rcases bO.1 hx' with hx'|hx'
  ·obtain ⟨t,ht',rfl⟩:=eU.1 hx'
   obtain ⟨⟨q1,q2⟩,q3⟩:=hcl.body t ht'
   refine ⟨⟨⟨⟨?_,?_⟩,pF _ _ q3⟩,by simp only; omega⟩,by simp only; omega⟩
   ·have:=l7 r.by_ t q1
    rw [qK] at this
    rw [a4]; exact this
   ·simp only [o8]; exact q2
  ·obtain ⟨q1,q2⟩:=hr x hx'
   exact ⟨q1.mono (by omega),by omega⟩
 ·show okCs p.length r.st.length (setN ns at_.toNat r.i).length (cs++(if r.l=[] then [] else [⟨g,at_,rest,r.l,b,ns.length⟩]))
  rw [hlen,pd]; exact hchs
 ·show r.st.length+26 * ir (cs++(if r.l=[] then [] else [(⟨g,at_,rest,r.l,b,ns.length⟩:CI)]))<=_
  rw [tX]
  split
  ·simp only [ir]; omega
  ·simp only [ir]; omega
theorem okCI.grow {m k n:Nat} {c:CI} (h:okCI m k c) (hn:c.binds.length<=n):Good (cF c.binds n).length (cF c.binds n)/\tabM (cF c.binds n)/\((okU (cF c.binds n).length c.goal/\wT c.goal<=1048576)/\okM c.goal)/\
  ∀ g∈c.rest,okGI (cF c.binds n).length g/\g.cut<=k:=by
 rw [dU hn]
 exact ⟨h.good.to hn,h.tab.to n,⟨⟨iC hn _ h.goal.1.1,h.goal.1.2⟩,h.goal.2⟩,fun g hg=>⟨(h.rest g hg).1.mono hn,(h.rest g hg).2⟩⟩
theorem BackI.ex {p:List C} (hp:∀ cl∈p,oP cl):∀ (L:Nat) (cs:List CI) (n:Nat) (ns:List NI),cs.length=L->okCs p.length n ns.length cs->∃ o,BackI p cs n ns o
 | 0,cs,n,ns,hL,_=>by
  obtain rfl:=gO hL
  exact ⟨none,.nil⟩
 | L+1,cs,n,ns,hL,hcs=>by
  obtain ⟨init,c,rfl⟩:∃ init c,cs=init++[c]:=⟨cs.dropLast,cs.getLast (by intro e; rw [e] at hL; simp at hL),(Uc _).symm⟩
  rw [bA,bw,bU] at hL
  obtain ⟨h1,h2,h3,h4⟩:=hcs.last
  obtain ⟨g1,g2,g3,g4⟩:=h2.grow h3
  obtain ⟨o,m,ht⟩:=TryI.ex hp c.left (cF c.binds n) g1 g3.1 h2.left
  cases o with
  | some r=>exact ⟨_,.hit ht⟩
  | none=>
   obtain ⟨k1,_,_⟩:=ht.ok hp g1 g2 g3
   rw [dU h3] at k1
   obtain ⟨o,ho⟩:=BackI.ex hp L init m (ns.take c.taken) (by omega) (h1.mono k1 (by rw [dX]; omega))
   exact ⟨o,.miss ht ho⟩
theorem BackI.ok {p:List C} (hp:∀ cl∈p,oP cl) {cs:List CI} {n:Nat} {ns:List NI} {o:Option SI} (h:BackI p cs n ns o):okCs p.length n ns.length cs->∀ s,o=some s->xR p.length s/\s.st.length+26 * ir s.chs<=n+26 * ir cs/\s.nodes.length<=ns.length/\n<=s.st.length:=by
 induction h with
 | nil=>intro _ s hs; cases hs
 | @hit cs c n m ns r ht=>
  intro hcs s hs
  simp only [bg] at hs
  subst hs
  obtain ⟨h1,h2,h3,h4⟩:=hcs.last
  obtain ⟨g1,g2,g3,g4⟩:=h2.grow h3
  have hlt:(ns.take c.taken).length=c.taken:=by rw [dX]; omega
  have hl:=dU h3
  obtain ⟨q1,q2,q3,q4⟩:=To hp rfl ht g1 g2 g3 (cs:=cs) (ns:=ns.take c.taken) (at_:=c.node) (rest:=c.rest) h2.left (by rw [hlt]; exact h2.node) g4 h2.cuts (by rw [hlt,hl]; exact h1)
  rw [hl] at q2 q4
  refine ⟨q1,?_,by rw [q3,dX]; omega,q4⟩
  rw [tX,ir,ir]
  omega
 | @miss cs c n m ns o ht _ ih=>
  intro hcs s hs
  obtain ⟨h1,h2,h3,h4⟩:=hcs.last
  obtain ⟨g1,g2,g3,g4⟩:=h2.grow h3
  obtain ⟨k1,k2,_⟩:=ht.ok hp g1 g2 g3
  have hl:=dU h3
  have k2:=k2 rfl
  rw [hl] at k1 k2
  have hlt:(ns.take c.taken).length=c.taken:=by rw [dX]; omega
  obtain ⟨q1,q2,q3,q4⟩:=ih (by rw [hlt]; exact h1.mono k1 (aW _)) s hs
  refine ⟨q1,?_,by rw [dX] at q3; omega,by omega⟩
  rw [tX,ir,ir]
  omega
theorem u7 {N:Nat} {st:al} (hg:Good N st) {t u:T} (ht:(okU N t/\wT t<=1048576)/\okM t) (hm:tabM st) (hu:Res st (.one t u)):okU N u/\okM u:=⟨jD hg hu ht.1.1,hu.okM hm ht.2⟩
theorem gB {m n:Nat} {ns:List NI} {cs:List CI} (h:okCs m n ns.length cs) (x:NI):okCs m n (ns++[x]).length cs:=h.mono (aW _) (by simp)
theorem StepI.ex {p:List C} (hp:∀ cl∈p,oP cl) (nc:Bool) {s:SI} (hs:xR p.length s) (hg:s.goals≠[]):∃ o e,StepI p nc s o e:=by
 obtain ⟨g,gs,hgs⟩:∃ g gs,s.goals=g::gs:=by
  cases h:s.goals with
  | nil=>exact absurd h hg
  | cons g gs=>exact ⟨g,gs,rfl⟩
 have hgo:=hs.goals
 rw [hgs] at hgo
 have hg1:=hgo g (aS ..)
 obtain ⟨t,ht⟩:=Sf hs.good g.t hg1.1.1.1.1
 obtain ⟨hut,hmt⟩:=u7 hs.good hg1.1.1 hs.tab ht
 cases hsm:bI t with
 | false=>exact ⟨_,_,.large hgs ht hsm⟩
 | true=>
  have hw:=gj hsm hut
  cases hc:fS t with
  | true=>
   cases nc with
   | true=>exact ⟨_,_,.noCut hgs ht hsm hc rfl⟩
   | false=>exact ⟨_,_,.cut hgs ht hsm hc rfl⟩
  | false=>
   have hns:=gB hs.chs ⟨t,g.up,-1⟩
   cases hb:cI t with
   | true=>
    obtain ⟨c,st,hB⟩:=Blt.ex hs.good hb ⟨hut,by omega⟩
    by_cases h0:c=0
    ·subst h0; exact ⟨_,_,.solved hgs ht hsm hc hb hB⟩
    by_cases h1:c=1
    ·subst h1
     obtain ⟨o,ho⟩:=BackI.ex hp _ s.chs s.st.length (s.nodes++[(⟨t,g.up,-1⟩:NI)]) rfl hns
     exact ⟨_,_,.fail hgs ht hsm hc hb hB ho⟩
    ·exact ⟨_,_,.err hgs ht hsm hc hb hB h0 h1⟩
   | false=>
    by_cases hf:ku p t=[]
    ·exact ⟨_,_,.unknown hgs ht hsm hc hb hf⟩
    obtain ⟨o,m,hT⟩:=TryI.ex hp (ku p t) s.st hs.good ⟨hut,by omega⟩ (qQ p t)
    cases o with
    | some r=>exact ⟨_,_,.took hgs ht hsm hc hb hf hT⟩
    | none=>
     obtain ⟨k1,_,_⟩:=hT.ok hp hs.good hs.tab ⟨⟨hut,by omega⟩,hmt⟩
     obtain ⟨o,ho⟩:=BackI.ex hp _ s.chs m (s.nodes++[(⟨t,g.up,-1⟩:NI)]) rfl (hns.mono k1 (aW _))
     exact ⟨_,_,.back hgs ht hsm hc hb hf hT ho⟩
theorem StepI.ok {p:List C} (hp:∀ cl∈p,oP cl) {nc:Bool} {s:SI} {o:Option SI} {e:Int} (h:StepI p nc s o e) (hs:xR p.length s):∀ s',o=some s'->xR p.length s'/\s'.st.length+26 * ir s'.chs<=s.st.length+26 * ir s.chs+26 * p.length/\s'.nodes.length<=s.nodes.length+1/\e=-1/\s.st.length<=s'.st.length:=by
 have hgood:=hs.good
 cases h with
 | large=>intro s' h; cases h
 | noCut=>intro s' h; cases h
 | err=>intro s' h; cases h
 | unknown=>intro s' h; cases h
 | @cut g gs t hgs ht hsm hc hnc=>
  intro s' h
  simp only [bg] at h
  subst h
  have hgo:=hs.goals
  have hcu:=hs.cuts
  rw [hgs] at hgo hcu
  have hg1:=hgo g (aS ..)
  have hcut:=hg1.1.2
  have hle:=hg1.2
  rw [cutsG,RQ] at hcu
  have hlt:(s.chs.take g.cut.toNat).length=g.cut.toNat:=by rw [dX]; omega
  refine ⟨⟨hs.good,hs.tab,fun x hx=>⟨(hgo x (aV _ hx)).1,?_⟩,hcu.2,(gB hs.chs _).take _⟩,?_,by simp,rfl,aW _⟩
  ·have:=hcu.1 x hx
   show x.cut<=((s.chs.take g.cut.toNat).length:Int)
   rw [hlt]; omega
  ·have:=Kc s.chs g.cut.toNat
   show s.st.length+26 * ir (s.chs.take g.cut.toNat)<=_
   omega
 | @solved g gs t st hgs ht hsm hc hb hB=>
  intro s' h
  simp only [bg] at h
  subst h
  have hgo:=hs.goals
  have hcu:=hs.cuts
  rw [hgs] at hgo hcu
  have hg1:=hgo g (aS ..)
  obtain ⟨hut,hmt⟩:=u7 hs.good hg1.1.1 hs.tab ht
  have hw:=gj hsm hut
  have hgd:=hB.good hs.good hb ⟨hut,by omega⟩
  have htb:=hB.okM hs.tab hmt
  have hlen:=hgd.len
  rw [cutsG,RQ] at hcu
  refine ⟨⟨by show Good st.length st; rw [hlen]; exact hgd,htb,fun x hx=>?_,hcu.2,?_⟩,?_,by simp,rfl,M8 hlen.symm⟩
  ·show okGI st.length x/\_
   rw [hlen]
   exact hgo x (aV _ hx)
  ·show okCs p.length st.length (s.nodes++[(⟨t,g.up,-1⟩:NI)]).length s.chs
   rw [hlen]; exact gB hs.chs _
  ·show st.length+26 * ir s.chs<=_
   omega
 | @fail g gs t st o hgs ht hsm hc hb hB ho=>
  intro s' h
  subst h
  obtain ⟨q1,q2,q3,q4⟩:=ho.ok hp (gB hs.chs _) s' rfl
  rw [bA] at q3
  exact ⟨q1,by omega,by simpa using q3,rfl,q4⟩
 | @took g gs t r m hgs ht hsm hc hb hf hT=>
  intro s' h
  simp only [bg] at h
  subst h
  have hgo:=hs.goals
  have hcu:=hs.cuts
  rw [hgs] at hgo hcu
  have hg1:=hgo g (aS ..)
  obtain ⟨hut,hmt⟩:=u7 hs.good hg1.1.1 hs.tab ht
  have hw:=gj hsm hut
  rw [cutsG,RQ] at hcu
  obtain ⟨q1,q2,q3,q4⟩:=To hp rfl hT hs.good hs.tab ⟨⟨hut,by omega⟩,hmt⟩ (cs:=s.chs) (ns:=s.nodes++[(⟨t,g.up,-1⟩:NI)]) (at_:=s.nodes.length) (rest:=gs) (qQ p t) (by simp; omega) (fun x hx=>hgo x (aV _ hx)) hcu.2 (gB hs.chs _)
  have hl:(ku p t).length<=p.length:=uW _ _ _
  exact ⟨q1,by omega,by rw [q3]; simp,rfl,q4⟩
 | @back g gs t m o hgs ht hsm hc hb hf hT ho=>
  intro s' h
  subst h
  have hgo:=hs.goals
  rw [hgs] at hgo
  have hg1:=hgo g (aS ..)
  obtain ⟨hut,hmt⟩:=u7 hs.good hg1.1.1 hs.tab ht
  have hw:=gj hsm hut
  obtain ⟨k1,k2,_⟩:=hT.ok hp hs.good hs.tab ⟨⟨hut,by omega⟩,hmt⟩
  have k2:=k2 rfl
  have hl:(ku p t).length<=p.length:=uW _ _ _
  obtain ⟨q1,q2,q3,q4⟩:=ho.ok hp ((gB hs.chs _).mono k1 (aW _)) s' rfl
  rw [bA] at q3
  exact ⟨q1,by omega,by simpa using q3,rfl,by omega⟩
theorem Yv {N:Nat} {st:al} (h:Good N st) {vars:List Int} (hv:∀ n∈vars,0<=n/\n<N):∃ o,ValsI st vars o:=by
 obtain ⟨us,hus⟩:=tH h (vars.map Ys) (qN fun t ht=>by
  obtain ⟨n,hn,rfl⟩:=eU.1 ht
  obtain ⟨h0,h1⟩:=hv n hn
  show okU N (.mk 1 n emptyB [])
  rw [okU,dw]
  exact ⟨by decide,fun _=>⟨h0,by omega,rfl,rfl⟩,trivial,C7⟩)
 exact ⟨_,us,hus,rfl⟩
theorem RunI.ex {p:List C} (hp:∀ cl∈p,oP cl) {vars:List Int} (hv:∀ n∈vars,0<=n/\n<26) (most:Nat):∀ (M n:Nat) (s:SI) (out:List (List T)),n+(most - out.length)<=M->out.length<=most->xR p.length s->26<=s.st.length->∃ r,RunI p vars most n s out r
 | 0,n,s,out,hM,ho,hs,h26=>by
  obtain rfl:n=0:=by omega
  by_cases hg:s.goals=[]
  ·exact ⟨_,.more hg (by omega)⟩
  ·exact ⟨_,.fuel hg⟩
 | M+1,n,s,out,hM,ho,hs,h26=>by
  by_cases hg:s.goals=[]
  ·by_cases hm:out.length=most
   ·exact ⟨_,.more hg hm⟩
   obtain ⟨v,hv1⟩:=Yv hs.good (vars:=vars) fun n hn=>⟨(hv n hn).1,by have:=(hv n hn).2; omega⟩
   cases v with
   | none=>exact ⟨_,.large hg hm hv1⟩
   | some vs=>
    obtain ⟨b,hb⟩:=BackI.ex hp _ s.chs s.st.length s.nodes rfl hs.chs
    cases b with
    | none=>exact ⟨_,.last hg hm hv1 hb⟩
    | some s'=>
     obtain ⟨q1,_,_,q4⟩:=hb.ok hp hs.chs s' rfl
     have hl:(out++[vs]).length=out.length+1:=by simp
     obtain ⟨r,hr⟩:=RunI.ex hp hv most M n s' (out++[vs]) (by omega) (by omega) q1 (by omega)
     exact ⟨r,.next hg hm hv1 hb hr⟩
  ·cases n with
   | zero=>exact ⟨_,.fuel hg⟩
   | succ n=>
    obtain ⟨o,e,hst⟩:=StepI.ex hp false hs hg
    cases o with
    | none=>exact ⟨_,.stop hg hst⟩
    | some s'=>
     obtain ⟨q1,_,_,_,q4⟩:=hst.ok hp hs s' rfl
     obtain ⟨r,hr⟩:=RunI.ex hp hv most M n s' out (by omega) ho q1 (by omega)
     exact ⟨r,.step hg hst hr⟩
def ey (q:List T):SI:=⟨List.replicate 26 none,q.map fun t=>⟨t,0,-1⟩,[],[]⟩
theorem Vo (m:Nat) {q:List T} (h:∀ t∈q,(okU 26 t/\wT t<=1048576)/\okM t):xR m (ey q):=by
 have hl:(List.replicate 26 (none:Option T)).length=26:=by simp
 refine ⟨by show Good (List.replicate 26 (none:Option T)).length _; rw [hl]; exact u3 26,tabM.none 26,fun g hg=>?_,?_,okCs.nil _ _ _⟩
 ·obtain ⟨t,ht,rfl⟩:=eU.1 hg
  show okGI (List.replicate 26 (none:Option T)).length _/\_
  rw [hl]
  exact ⟨⟨h t ht,Af _⟩,Af _⟩
 ·show List.Pairwise _ (q.map _)
  rw [List.pairwise_map]
  exact Wj.2 fun _=>Af _
theorem Oh {cl:C} (h:bK cl=true):oP cl:=by
 obtain ⟨h1,h2,h3⟩:=gr h
 have hm:=Po h
 have hb:=h
 rw [bK] at hb
 simp only [bu,bk,dE] at hb
 obtain ⟨hl,hgs,hvh,_⟩:=hb
 have hwh:=qR hvh
 exact ⟨⟨⟨h1,by omega⟩,hm.hd⟩,fun t ht=>⟨⟨h2 t ht,by have:=qR (fw (hgs t ht)); omega⟩,hm.bd t ht⟩⟩
end
section
open Go Go.RowKit
theorem ql (st:al):∀ ns:List Int,(fj st ns).length=st.length:=by
 intro ns
 induction ns generalizing st with
 | nil=>rfl
 | cons n ns ih=>
  have h:=ih st
  have e:fj st (n::ns)=fj (fj st ns) [n]:=uD st [n] ns
  rw [e,show fj (fj st ns) [n]=(fj st ns).set n.toNat none from Cq _ [] n,nZ,h]
theorem Vi (st:al) (k:Nat):∀ ns:List Int,fj (st++List.replicate k none) ns=fj st ns++List.replicate k none:=by
 intro ns
 apply wD
 intro i
 rw [pG]
 by_cases hi:i<st.length
 ·rw [z0 hi,z0 (by rw [ql]; exact hi),pG]
 ·rw [iu (by omega),iu (by rw [ql]; omega),ql,XU]
  split
  ·split <;> rfl
  ·rfl
theorem Of (st:al) {n m:Nat} (h:st.length<=n) (h':n<=m):cF (cF st n) m=cF st m:=by
 unfold cF
 rw [eK,WH]
 congr 2
 simp
 omega
theorem P2 (st:al) (n:Nat) (ns:List Int):fj (cF st n) ns=cF (fj st ns) n:=by
 unfold cF
 rw [Vi,ql]
def TrG (st st':al) (tr tr':List Int):Prop:=st.length<=st'.length/\∃ ns,tr'=tr++ns/\fj st' ns=cF st st'.length/\∀ n∈ns,0<=n
theorem TrG.refl (st:al) (tr:List Int):TrG st st tr tr:=⟨aW _,[],(dh _).symm,by rw [nz]; rfl,by simp⟩
theorem TrG.grow (st:al) (tr:List Int) {n:Nat} (h:st.length<=n):TrG st (cF st n) tr tr:=⟨by rw [dU h]; exact h,[],(dh _).symm,by rw [dU h]; rfl,by simp⟩
theorem TrG.of {st st':al} {tr tr':List Int} (h:Tr st st' tr tr'):TrG st st' tr tr':=by
 obtain ⟨ns,h1,h2,h3,_⟩:=h
 have hl:st'.length=st.length:=by rw [<- h2,ql]
 refine ⟨by omega,ns,h1,by rw [h2,hl,nz],fun n hn=>?_⟩
 obtain ⟨j,rfl,_⟩:=h3 n hn
 omega
theorem TrG.trans {a b c:al} {x y z:List Int} (h:TrG a b x y) (h':TrG b c y z):TrG a c x z:=by
 obtain ⟨l1,n1,e1,u1,p1⟩:=h
 obtain ⟨l2,n2,e2,u2,p2⟩:=h'
 refine ⟨by omega,n1++n2,by rw [e2,e1,eK],?_,fun n hn=>(bO.1 hn).elim (p1 n) (p2 n)⟩
 rw [uD,u2,P2,u1,Of _ l1 l2]
theorem Tr.short {st st':al} {tr tr':List Int} (h:Tr st st' tr tr'):tr'.length+unb st'<=tr.length+unb st:=by
 obtain ⟨ns,rfl,_,_,h4⟩:=h
 rw [bA]
 omega
theorem qY:∀ (st:al) (k:Nat),unb (st++List.replicate k none)=unb st+k
 | [],k=>by rw [rg,uM]; simp [unb]
 | none::st,k=>by simp only [iR,unb,qY st k]; omega
 | some t::st,k=>by simp only [iR,unb,qY st k]
inductive MkI:List CI->List Nat->al->List Int->Prop
 | nil {st:al} {tr:List Int}:MkI [] [] st tr
 | snoc {cs:List CI} {c:CI} {ms:List Nat} {st:al} {tr0 tr:List Int}:MkI cs ms c.binds tr0->TrG c.binds st tr0 tr->MkI (cs++[c]) (ms++[tr0.length]) st tr
theorem MkI.len {cs:List CI} {ms:List Nat} {st:al} {tr:List Int} (h:MkI cs ms st tr):ms.length=cs.length:=by
 induction h with
 | nil=>rfl
 | snoc _ _ ih=>rw [bA,bA,ih]; rfl
theorem MkI.go {cs:List CI} {ms:List Nat} {st st':al} {tr tr':List Int} (h:MkI cs ms st tr) (hg:TrG st st' tr tr'):MkI cs ms st' tr':=by
 cases h with
 | nil=>exact .nil
 | snoc h1 h2=>exact .snoc h1 (h2.trans hg)
theorem MkI.push {cs:List CI} {c:CI} {ms:List Nat} {tr:List Int} (h:MkI cs ms c.binds tr):MkI (cs++[c]) (ms++[tr.length]) c.binds tr:=.snoc h (TrG.refl _ _)
theorem MkI.pop {cs:List CI} {c:CI} {ms:List Nat} {st:al} {tr:List Int} (h:MkI (cs++[c]) ms st tr):∃ (ms0:List Nat) (m:Nat),ms=ms0++[m]/\m<=tr.length/\(∀ n∈tr.drop m,0<=n)/\fj st (tr.drop m)=cF c.binds st.length/\
  MkI cs ms0 (cF c.binds st.length) (tr.take m)/\MkI cs ms0 st tr:=by
 generalize hl:cs++[c]=l at h
 cases h with
 | nil=>simp at hl
 | @snoc cs' c' ms0 _ tr0 _ h1 h2=>
  obtain ⟨rfl,hc⟩:=V0 hl rfl
  simp only [lE,mC] at hc
  subst hc
  obtain ⟨l1,ns,rfl,hu,hp⟩:=h2
  refine ⟨ms0,tr0.length,rfl,by simp,by simpa using hp,by simpa using hu,?_,h1.go ⟨l1,ns,rfl,hu,hp⟩⟩
  have:=h1.go (TrG.grow c.binds tr0 l1)
  simpa using this
theorem MkI.take {cs:List CI} {ms:List Nat} {st:al} {tr:List Int}:∀ (k:Nat) (_:MkI cs ms st tr),MkI (cs.take (cs.length - k)) (ms.take (cs.length - k)) st tr
 | 0,h=>by
  have:=h.len
  rw [Nat.sub_zero,fJ,<- this,fJ]; exact h
 | k+1,h=>by
  have hk:=MkI.take k h
  by_cases hz:cs.length - k=0
  ·rw [show cs.length - (k+1)=0 by omega,M0,M0]; exact .nil
  have hl:=h.len
  obtain ⟨j,hj⟩:∃ j,cs.length - k=j+1:=⟨cs.length - k - 1,by omega⟩
  have hjc:j<cs.length:=by omega
  rw [hj,fl hjc] at hk
  obtain ⟨ms0,m,e,_,_,_,_,h2⟩:=hk.pop
  have hl0:ms0.length=j:=by have:=h2.len; rw [dX] at this; omega
  have e2:ms0=ms.take j:=by
   have h3:=congrArg (List.take j) e
   rw [oX,lm (by omega),FQ hl0] at h3
   exact h3.symm
  rw [show cs.length - (k+1)=j by omega,<- e2]
  exact h2
theorem MkI.cut {cs:List CI} {ms:List Nat} {st:al} {tr:List Int} (h:MkI cs ms st tr) {k:Nat} (hk:k<=cs.length):MkI (cs.take k) (ms.take k) st tr:=by
 have:=MkI.take (cs.length - k) h
 rwa [show cs.length - (cs.length - k)=k by omega] at this
end
section
open Go Go.RowKit
inductive GL (S:ae):Value->List GI->Prop
 | nil:GL S (.pointer none) []
 | cons {b:Nat} {a0 a1 a2 a3 nv:Value} {E:TypeId} {fz:Nat × Nat} {g:GI} {gs:List GI}:S b=some (.cells #[a0,a1,a2,a3,.int .i64 g.cut,.int .i64 g.up,nv] E fz)->RdT S [a0,a1,a2,a3] g.t->GL S nv gs->GL S (.pointer (some ⟨b,0,none⟩)) (g::gs)
theorem GL.mono {S S':ae} (hs:Sle S S') {v:Value} {gs:List GI} (h:GL S v gs):GL S' v gs:=by
 induction h with
 | nil=>exact .nil
 | cons h1 h2 _ ih=>exact .cons (hs _ _ h1) (h2.mono hs) ih
theorem GL.ptr {S:ae} {v:Value} {gs:List GI} (h:GL S v gs):∃ p,v=.pointer p:=by
 cases h with
 | nil=>exact ⟨_,rfl⟩
 | cons=>exact ⟨_,rfl⟩
theorem RdT.four {S:ae} {cs:List Value} {t:T} (h:RdT S cs t):∃ a0 a1 a2 a3,cs=[a0,a1,a2,a3]:=by
 obtain ⟨kv,rfl,_⟩:=RdT.iff.1 h
 exact ⟨_,_,_,_,rfl⟩
section
variable {w:World} {K:Value->World->Prop}
attribute [local irreducible] Run
theorem Vs {a b c d:Value} {i j:Int} {p:Option Addr} (hk:K (.agg #[a,b,c,d,.int .i64 i,.int .i64 j,.pointer p]) w):Run Tryz.prog (cB lk [(0,.agg #[a,b,c,d]),(1,.int .i64 i),(2,.int .i64 j),(3,.pointer p)]) w K:=by
 refine Run.of (v:=.agg #[a,b,c,d,.int .i64 i,.int .i64 j,.pointer p]) (w':=w) ?_ hk
 unfold cB
 rw [Sem.run_bind,run_build w lk _ #[a,b,c,d,.int .i64 i,.int .i64 j,.pointer p] (by kernel_rfl),Result.andThen_ok]
 rfl
theorem QE {a b c d:Value} {i j:Int} (hk:K (.agg #[a,b,c,d,.int .i64 i,.int .i64 j]) w):Run Tryz.prog (cB iY [(0,.agg #[a,b,c,d]),(1,.int .i64 i),(2,.int .i64 j)]) w K:=by
 refine Run.of (v:=.agg #[a,b,c,d,.int .i64 i,.int .i64 j]) (w':=w) ?_ hk
 unfold cB
 rw [Sem.run_bind,run_build w iY _ #[a,b,c,d,.int .i64 i,.int .i64 j] (by kernel_rfl),Result.andThen_ok]
 rfl
theorem JN {a b c d:Value} {i j k:Int} {p:Option Addr} {q:Option Addr} {n m:Nat} (hk:K (.agg #[a,b,c,d,.int .i64 i,.pointer p,.slice q n m,.int .i64 j,.int .i64 k]) w) :
  Run Tryz.prog (cB ez [(0,.agg #[a,b,c,d]),(1,.int .i64 i),(2,.pointer p),(3,.slice q n m),(4,.int .i64 j),(5,.int .i64 k)]) w K:=by
 refine Run.of (v:=.agg #[a,b,c,d,.int .i64 i,.pointer p,.slice q n m,.int .i64 j,.int .i64 k]) (w':=w) ?_ hk
 unfold cB
 rw [Sem.run_bind,run_build w ez _ #[a,b,c,d,.int .i64 i,.pointer p,.slice q n m,.int .i64 j,.int .i64 k] (by kernel_rfl),Result.andThen_ok]
 rfl
end
section
attribute [local irreducible] Run CondV az aO
theorem KF {ts:List T} {S:ae} {v gv:Value} {gs:List GI} {cut up:Int} (h:RdSl S 4 (RdT S) v ts) (hg:GL S gv gs):Tri Tryz.prog YD [v,.int .i64 cut,.int .i64 up,gv] [] S fun q I' S'=>I'=[]/\GL S' q (ts.map (fun t=>⟨t,cut,up⟩)++gs):=by
 intro w hI
 have hlen:=h.le
 simp only [maxLen] at hlen
 refine Pj.2 ?_
 dsimp only[Pj,lC]
 refine aF h ag ?_
 refine mx (by omega) ?_
 refine ⟨fun i q w'=>∃ (j:Nat) (S1:ae),j<=ts.length/\i=.int .i64 ((j:Int) - 1)/\Ext w.heap.size [] S S1/\GL S1 q ((ts.drop j).map (fun t=>⟨t,cut,up⟩)++gs)/\Inv w [] [] S1 w',fun i _ _=>((intOf i)+1).toNat,
  ⟨ts.length,S,aW _,rfl,Ext.refl _ _ _,by rw [dO]; exact hg,hI⟩,?_⟩
 intro t9 _ _ t3 _ _ _ _ _ _ _ _ _ _ _ w'
 rintro ⟨j,S1,hj,rfl,hE,hgl,hI⟩
 refine jS ?_
 refine aL (fun h0=>?_) (fun h0=>?_)
 ·obtain ⟨k,rfl⟩:∃ k,j=k+1:=⟨j - 1,by omega⟩
  have hk:k<ts.length:=by omega
  rw [show (((k+1:Nat):Int) - 1)=(k:Int) by omega]
  refine cL hI (h.monoT hE.1) ag ad hk (fun _ _=>RdT.length) fun cs hcs=>?_
  obtain ⟨a0,a1,a2,a3,rfl⟩:=hcs.four
  obtain ⟨p,rfl⟩:=hgl.ptr
  refine Vs ?_
  refine bq hI fun b w' hI=>?_
  have hI:Inv w [] ([]++[.blk b (.cells #[a0,a1,a2,a3,.int .i64 cut,.int .i64 up,.pointer p] lk)]) S1 w':=hI
  obtain ⟨S2,hI,hE2,hS2⟩:=Inv.pub1 hI
  refine mx (by omega) ?_
  refine ⟨⟨k,S2,by omega,rfl,hE.trans hE2,?_,hI⟩,by simp only [intOf]; omega⟩
  rw [cU hk,AE,iR]
  exact GL.cons hS2 (hcs.mono hE2.1) (hgl.mono hE2.1)
 ·have:j=0:=by omega
  subst this
  exact ⟨_,_,S1,rfl,hI,hE,rfl,by simpa using hgl⟩
theorem U6 {S:ae} {b:Nat} {by_:Int} {E:TypeId} {fz:Nat × Nat} (hb:S b=some (.cells #[.int .i64 by_] E fz)) (h0:0<=by_/\by_<=10000000):Fun pA [.pointer (some ⟨b,0,none⟩)] S fun n=>.mk 1 (n+by_) ⟨#[]⟩ []:=by
 intro S' hle n hn0 hn25
 have hb':=hle _ _ hb
 refine ⟨[.int .i64 1,.int .i64 (n+by_),.string ⟨#[]⟩,.slice none 0 0],RdT.nil (by simp [inI]) (by simp only [inI]; omega) (show 0<=maxLen from be _) (by simp [maxLen]),fun w hI=>?_⟩
 refine oy.2 ?_
 dsimp only[oy,aY]
 refine aT hI aZ fun b2 w' hI=>?_
 refine ct aG (by rw [hI.cellS hb']; rfl) ?_
 refine bp (by omega) ?_
 refine Run.callPure oM oR hI (mG _ S') fun w' hI=>?_
 refine aC hI 0 rfl ad rfl rfl (by simp [Value.oneCell']) fun w' hI=>?_
 refine bJ hI 0 ad rfl rfl ?_
 exact done hI rfl
end
mutual
theorem s0 {N:Nat} (b:Nat):∀ t:T,okU N t->Bk (fun n=>.mk 1 (n+(b:Int)) ⟨#[]⟩ []) t=dx b t
 | .mk k n s ks,h=>by
  rw [okU] at h
  rw [Bk,dx]
  by_cases hk:k=1
  ·have h1:=h.2.1 hk
   rw [ai hk,ai hk,h1.2.2.2,gU,h1.2.2.1,hk]
   rfl
  ·rw [ah hk,ah hk,yF b ks h.2.2.1]
theorem yF {N:Nat} (b:Nat):∀ ts:List T,dw N ts->vR (fun n=>.mk 1 (n+(b:Int)) ⟨#[]⟩ []) ts=gU b ts
 | [],_=>rfl
 | t::ts,h=>by
  rw [dw] at h
  rw [vR,gU,s0 b t h.1,yF b ts h.2]
end
end
section
open Go Go.RowKit
theorem CQ {k f:Nat} {x:Value}:∀ (css:List (List Value)) (j:Nat) (_:∀ cs∈css,cs.length=k) (h:j<css.length) (_:f<k),css.flatten.set (j * k+f) x=(css.set j (css[j].set f x)).flatten
 | [],j,_,h,_=>by simp at h
 | c::css,0,hk,_,hf=>by
  have:=hk c (aS ..)
  rw [iT,Cf,cq,Ta _ _ (by omega)]
  rfl
 | c::css,j+1,hk,h,hf=>by
  have hc:=hk c (aS ..)
  have ih:=CQ (x:=x) css j (fun cs hcs=>hk cs (aV _ hcs)) (by simpa using h) hf
  have e:(j+1) * k+f=c.length+(j * k+f):=by rw [lw,hc]; omega
  rw [iT,e,List.set_append_right _ _ (by omega),oV,ih]
  rfl
theorem Ml (c:Array Value) (p:Nat) (x:Value) (h:p<c.size):(bn c p [x]).toList=c.toList.set p x:=by
 unfold bn
 rw [GW,ai (by simpa using h)]
 simp
theorem Rows.set {α:Type} {k:Nat} {R:List Value->α->Prop} {css:List (List Value)} {ys:List α} (h:Rows k R css ys) {cs:List Value} {y:α} (j:Nat) (hR:R cs y) (hl:cs.length=k):Rows k R (css.set j cs) (ys.set j y):=by
 refine ⟨by rw [nZ,nZ,h.hc],fun c hc=>?_,fun i h0 h2=>?_⟩
 ·rcases sC hc with hc|rfl
  ·exact h.hk c hc
  ·exact hl
 ·rw [List.getElem_set,List.getElem_set]
  split
  ·exact hR
  ·exact h.hR i (by simpa using h0) (by simpa using h2)
theorem Rows.take {α:Type} {k:Nat} {R:List Value->α->Prop} {css:List (List Value)} {ys:List α} (h:Rows k R css ys) (n:Nat):Rows k R (css.take n) (ys.take n):=by
 have:=h.hc
 refine ⟨by rw [dX,dX,h.hc],fun c hc=>h.hk c (sD hc),fun i h0 h2=>?_⟩
 rw [dX] at h0
 simp only [Fu]
 exact h.hR i (by omega) (by omega)
theorem zh {k:Nat}:∀ (css:List (List Value)) (n:Nat) (_:∀ cs∈css,cs.length=k),css.flatten.take (n * k)=(css.take n).flatten
 | [],n,_=>by simp
 | c::css,0,_=>by simp
 | c::css,n+1,hk=>by
  have hc:=hk c (aS ..)
  have ih:=zh css n fun cs hcs=>hk cs (aV _ hcs)
  rw [iT,lw,qK,List.take_append,MU (by omega),hc,oV,ih]
  rfl
def Yw (v:Value) (h:Nat):Value:=match v with
 | .slice a _ cap=>.slice a h cap
 | v=>v
section
variable {P:Program} {w w0:World} {X:List Nat} {L:List Item} {S:ae} {K:Value->World->Prop}
attribute [local irreducible] Run CondV az aO
theorem Inv.swapItem (h:Inv w0 X L S w) {i:Nat} {a b:Item} (hi:L[i]?=some a) (hf:b.foot=a.foot) (hb:b.holds w):Inv w0 X (L.set i b) S w:=by
 have hl:=(gx.1 hi).1
 have hfe:bE (L.set i b)=bE L:=by
  have e:L.map Item.foot=(L.set i b).map Item.foot:=by
   rw [List.map_set,hf]
   apply wD
   intro j
   rw [C5]
   split
   ·rename_i e
    subst e
    rw [ai (by simpa using hl),List.getElem?_map,hi]
    rfl
   ·rfl
  unfold bE
  rw [List.flatMap_def,List.flatMap_def]
  congr 1
  rw [List.map_set]
  apply wD
  intro j
  rw [C5]
  split
  ·rename_i e
   subst e
   rw [ai (by simpa using hl),List.getElem?_map,hi]
   simp [hf]
  ·rfl
 refine ⟨h.size,h.os,h.tape,h.output,h.old,fun it hit=>?_,by rw [hfe]; exact h.nd,by rw [hfe]; exact h.new,by rw [hfe]; exact h.pub⟩
 rcases sC hit with hit|rfl
 ·exact h.its it hit
 ·exact hb
theorem Inv.rowSlice' (h:Inv w0 X L S w) {i k n:Nat} {e:TypeId} {v:Value} {xs:List Value} (hi:L[i]?=some (.row v e k n xs)):∃ a cap,v=.slice a n cap/\n<=cap:=by
 have hm:w.ownsRow 0 e k v n xs:=h.its (.row v e k n xs) (cz hi)
 rcases hm.2 with ⟨rfl,hn⟩|⟨g,cap,cur,rfl,_,_,hn,_⟩
 ·exact ⟨_,_,by rw [hn],by omega⟩
 ·exact ⟨_,_,rfl,hn⟩
theorem Inv.cutRow (h:Inv w0 X L S w) {i k:Nat} {e:TypeId} {v:Value} {css:List (List Value)} (hi:L[i]?=some (aJ v e k css)) {n:Nat} (hn:n<=css.length) (hk:∀ cs∈css,cs.length=k):Inv w0 X (L.set i (aJ (Yw v n) e k (css.take n))) S w:=by
 have hm:w.ownsRow 0 e k v css.length css.flatten:=h.its _ (cz hi)
 refine h.swapItem hi ?_ ?_
 ·obtain ⟨a,cap,rfl,_⟩:=h.rowSlice' hi
  cases a <;> rfl
 ·show w.ownsRow 0 e k (Yw v n) (css.take n).length (css.take n).flatten
  have hl:(css.take n).length=n:=by rw [dX]; omega
  refine ⟨lc fun cs hc=>hk cs (sD hc),?_⟩
  rcases hm.2 with ⟨rfl,h0⟩|⟨g,cap,cur,rfl,h1,h2,h3,h4,h5,h6⟩
  ·left
   have:n=0:=by omega
   subst this
   exact ⟨rfl,by simp⟩
  ·right
   refine ⟨g,cap,cur,by rw [hl]; rfl,h1,h2,by omega,h4,h5,?_⟩
   rw [hl,<- zh css n hk,<- h6,oX,lm (ja k hn)]
theorem QM (h:Inv w0 X L S w) (i:Nat) {T ty e:TypeId} {k n m:Nat} {v:Value} {xs:List Value} (hi:L[i]?=some (.row v e k m xs)) (hT:cG P T=some (e,k)) (hn:n<=m) (hk:K (Yw v n) w) :
  Run P (sOp (.slice T (.const v) none (some (.const (.int .i64 n))) none) ty) w K:=by
 obtain ⟨a,cap,rfl,hc⟩:=h.rowSlice' hi
 refine Bz hT (by omega) ?_
 cases a with
 | none=>split <;> exact hk
 | some a=>
  split
  ·exact hk
  ·obtain ⟨b,o,p⟩:=a
   have hm:w.ownsRow 0 e k (.slice (some ⟨b,o,p⟩) m cap) m xs:=h.its _ (cz hi)
   rcases hm.2 with ⟨h0,_⟩|⟨g,cap',cur,h0,_⟩
   ·cases h0
   ·cases h0
    simpa [gn,Yw] using hk
theorem Inv.rowPtr (h:Inv w0 X L S w) {i k:Nat} {e:TypeId} {v:Value} {css:List (List Value)} (hi:L[i]?=some (aJ v e k css)) {j:Nat} (hj:j<css.length) (hk:∀ cs∈css,cs.length=k) :
  ∃ g cap,v=.slice (some ⟨g,0,none⟩) css.length cap/\(∀ f u,css[j][f]?=some u->w.cell? ⟨g,j * k+f,none⟩=some u):=by
 have hm:w.ownsRow 0 e k v css.length css.flatten:=h.its _ (cz hi)
 rcases hm.2 with ⟨_,h0⟩|⟨g,cap,cur,rfl,h1,h2,h3,h4,h5,h6⟩
 ·omega
 ·refine ⟨g,cap,rfl,fun f u hf=>?_⟩
  rw [cell_of_row w g (j * k+f) cur e (0,0) h2]
  have hfl:=jb k css j hk hj
  have hfk:f<k:=by have:=(gx.1 hf).1; have:=hk _ (bz hj); omega
  rw [<- hfl,r4,ai hfk,AD,<- h6,r4] at hf
  split at hf
  ·simpa using hf
  ·cases hf
theorem H5 (h:Inv w0 X L S w) {T ty e:TypeId} (i:Nat) {g cap k j f a:Nat} {css:List (List Value)} {x:Value} (hi:L[i]?=some (aJ (.slice (some ⟨g,0,none⟩) css.length cap) e k css)) (hT:jI P T=true) (hj:j<css.length) (hf:f<k) (ha:a=j * k+f)
  (hkl:∀ cs∈css,cs.length=k) (hx:x.cells=#[x]) (h1:x.oneCell'=true)
  (hk:∀ w',Inv w0 X (L.set i (aJ (.slice (some ⟨g,0,none⟩) css.length cap) e k (css.set j (css[j].set f x)))) S w'->K undef w') :
  Run P (sOp (.store T (.const (.pointer (some ⟨g,a,none⟩))) (.const x)) ty) w K:=by
 subst ha
 have hil:=(gx.1 hi).1
 have hie:=(gx.1 hi).2
 have hp:List.Perm L ((L.take i++L.drop (i+1))++[aJ (.slice (some ⟨g,0,none⟩) css.length cap) e k css]):=by
  conv=>lhs; rw [<- xd i L,cU hil,hie]
  rw [eK]
  exact DZ _ (cu (l₁:=[_]))
 have hI:=h.perm hp.symm
 obtain ⟨_,ho⟩:=Inv.openRow hI
 rcases ho with ⟨h0,_⟩|⟨g',cap',cur,h0,hnc,hcm,hcs,ht,hI⟩
 ·cases h0
 cases h0
 have hlt:j * k+f<css.length * k:=by
  have:(j+1) * k<=css.length * k:=ja k hj
  rw [lw] at this
  omega
 have hcap:css.length * k<=cap * k:=ja k hnc
 refine cW hI (L.take i++L.drop (i+1)).length (n:=1) (by rw [hx]; rfl) (by rw [hT]; rfl) (by rw [iu (aW _),eB]; rfl) (by omega) (by rw [hx]; simpa using h1) fun w' hI=>hk w' ?_
 rw [List.set_append_right _ _ (aW _),eB] at hI
 have hI:Inv w0 X ((L.take i++L.drop (i+1))++[.blk g (.cells (bn cur (j * k+f) x.cells.toList) e)]) S w':=hI
 rw [show x.cells.toList=[x] by rw [hx]] at hI
 have hI:=Inv.closeRow (n:=css.length) (cap:=cap) (k:=k) hI hnc hcm (by rw [fM _ _ _ (by simp; omega)]; exact hcs)
 rw [Ml _ _ _ (by omega),List.take_set,ht,CQ css j hkl hj hf] at hI
 refine hI.perm ?_
 rw [GW,ai hil,eK]
 refine DZ _ ?_
 rw [show Item.row (.slice (some ⟨g,0,none⟩) css.length cap) e k css.length (css.set j (css[j].set f x)).flatten=aJ (.slice (some ⟨g,0,none⟩) css.length cap) e k (css.set j (css[j].set f x)) by simp [aJ]]
 exact (cu (l₁:=[_]))
end
end
end Go.Proofs.YtgllldjiaglkcaaGreatDoor
