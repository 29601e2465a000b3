/- Flat programs: what follows from facts. The plain form. -/
import Derived.Test.YtemmhhdnlbmicaaGreatZMg9
import Derived.Test.YtemmhhdnlbmicaaGreatZMg1
import Derived.Test.YtemmhhdnlbmicaaGreatZMg2
import Derived.Lib.Overlaps
import Derived.Test.YtemmhhdnlbmicaaGreatZMg0
import Derived.Test.YtemmhhdnlbmicaaGreatZMg3
namespace Go.Proofs.YtemmhhdnlbmicaaGreat
open Go Go.RowKit

def Hq (y:T):Prop:=eC y=true/\y.kids=[]/\y.kind≠1
def Fct (x:T):Prop:=x.kind=3/\eC x=true/\∀ y∈x.kids,Hq y
def Gl (g:T):Prop:=g.kind=3/\eC g=true/\∀ y∈g.kids,eC y=true/\y.kids=[]
def StF (st:bt):Prop:=st.length=26/\∀ t,some t∈st->Hq t
def bnd (st:bt) (n:Int):Prop:=∃ t,st[n.toNat]?=some (some t)
theorem Jb {s:ByteArray} (h:lZ s=true):s.size<=6:=by
 rw [lZ,Bool.or_eq_true] at h
 rcases h with h|h
 ·rw [kC] at h
  simp only [Bool.and_eq_true,decide_eq_true_eq] at h
  exact h.2.2
 ·simp only [List.any_eq_true,decide_eq_true_eq] at h
  obtain ⟨x,hx,rfl⟩:=h
  have:∀ y∈signs,y.size<=6:=by decide +kernel
  exact this x hx
theorem vF {t:T} (h:eC t=true):t.name.size<=6/\t.kids.length<=4:=by
 unfold eC at h
 have he:emptyB.size=0:=by decide +kernel
 by_cases e1:t.kind=1
 ·rw [if_pos e1] at h
  simp only [Bool.and_eq_true,decide_eq_true_eq] at h
  rw [h.2.2.1]; omega
 ·rw [if_neg e1] at h
  by_cases e2:t.kind=2
  ·rw [if_pos e2] at h
   simp only [Bool.and_eq_true,decide_eq_true_eq] at h
   rw [h.2.2.1]; omega
  ·rw [if_neg e2] at h
   by_cases e3:t.kind=3
   ·rw [if_pos e3] at h
    simp only [Bool.and_eq_true,decide_eq_true_eq] at h
    exact ⟨Jb h.2.1,h.2.2⟩
   ·rw [if_neg e3] at h
    cases h
theorem L8 (t:T):wT t=t.name.size+t.kids.length+wL t.kids:=by cases t; rw [wT]; rfl
theorem JY (t:T):okV t↔(t.kind=1->0<=t.n/\t.n<=25)/\Fp t.kids:=by cases t; rw [okV]; rfl
theorem Jy (t:T):okK t↔t.kind≠0/\Co t.kids:=by cases t; rw [okK]; rfl
theorem JN (t:T):okO t↔(((t.kind=1 ∨ t.kind=2)/\t.name=emptyB/\t.kids=[]) ∨ (t.kind=3/\t.n=0))/\uO t.kids:=by cases t; rw [okO]; rfl
theorem Jv:∀ {ts:List T},(∀ t∈ts,okO t)->uO ts
 | [],_=>by simp [uO]
 | t::ts,h=>by rw [uO]; exact ⟨h t (List.mem_cons_self ..),Jv fun u hu=>h u (List.mem_cons_of_mem _ hu)⟩
theorem EU {y:T} (h:eC y=true) (hk:y.kids=[]):okV y/\okK y/\okO y/\wT y<=6:=by
 have h1:=HR h
 have h2:=zq h
 have h3:=vF h
 refine ⟨(JY y).2 ⟨h1.1,by rw [hk]; simp [Fp]⟩,(Jy y).2 ⟨h1.2,by rw [hk]; simp [Co]⟩,(JN y).2 ⟨h2,by rw [hk]; simp [uO]⟩,?_⟩
 rw [L8,hk]
 simp only [List.length_nil,wL]
 omega
theorem zt:∀ (ts:List T) (b:Nat),(∀ t∈ts,wT t<=b)->wL ts<=ts.length * b
 | [],b,_=>by simp [wL]
 | t::ts,b,h=>by
  rw [wL,List.length_cons,Nat.succ_mul]
  have h1:=h t (List.mem_cons_self ..)
  have h2:=zt ts b fun u hu=>h u (List.mem_cons_of_mem _ hu)
  omega
theorem JM {x:T} (ho:eC x=true) (hk:∀ y∈x.kids,eC y=true/\y.kids=[]):okV x/\okK x/\okO x/\wT x<=34:=by
 have h1:=HR ho
 have h2:=zq ho
 have h3:=vF ho
 have hl:=fun y hy=>EU (hk y hy).1 (hk y hy).2
 refine ⟨(JY x).2 ⟨h1.1,JW fun y hy=>(hl y hy).1⟩,(Jy x).2 ⟨h1.2,JL fun y hy=>(hl y hy).2.1⟩,(JN x).2 ⟨h2,Jv fun y hy=>(hl y hy).2.2.1⟩,?_⟩
 have h4:=zt x.kids 6 fun y hy=>(hl y hy).2.2.2
 have h5:x.kids.length * 6<=4 * 6:=Nat.mul_le_mul_right 6 h3.2
 rw [L8]
 omega
theorem Fct.ok {x:T} (h:Fct x):okV x/\okK x/\okO x/\wT x<=34:=JM h.2.1 fun y hy=>⟨(h.2.2 y hy).1,(h.2.2 y hy).2.1⟩
theorem Gl.ok {x:T} (h:Gl x):okV x/\okK x/\okO x/\wT x<=34:=JM h.2.1 h.2.2
theorem StF.ok {st:bt} (h:StF st):u1 st/\stW st:=⟨⟨h.1,fun t ht=>(EU (h.2 t ht).1 (h.2 t ht).2.1).2.1⟩,fun t ht=>by have:=(EU (h.2 t ht).1 (h.2 t ht).2.1).2.2.2; omega⟩
theorem AN:StF st0:=⟨by simp [st0],fun t ht=>by simp [st0] at ht⟩
theorem K7 {y:T} (h:eC y=true) (hk:y.kind=1):0<=y.n/\y.n<=25:=(HR h).1 hk
/- matching -/
theorem wx:∀ (ts us:List T) (st:bt),st.length=26->(∀ y∈ts,eC y=true/\y.kids=[])->ts.length=us.length->
  (eL ts us st).2.length=26/\(∀ x,some x∈(eL ts us st).2->some x∈st ∨ x∈us)/\(∀ n,bnd st n->bnd (eL ts us st).2 n)/\((eL ts us st).1=true->∀ y∈ts,y.kind=1->bnd (eL ts us st).2 y.n)
 | [],us,st,hst,_,_=>by
  rw [eL]
  exact ⟨hst,fun x hx=>.inl hx,fun n h=>h,fun _ y hy=>by cases hy⟩
 | _::_,[],st,_,_,hl=>by simp at hl
 | t::ts,u::us,st,hst,hk,hl=>by
  obtain ⟨ho,hks⟩:=hk t (List.mem_cons_self ..)
  have hk':=fun y hy=>hk y (List.mem_cons_of_mem _ hy)
  have hl':ts.length=us.length:=by simpa using hl
  rw [eL]
  have key:(bK t u st).2.length=26/\(∀ x,some x∈(bK t u st).2->some x∈st ∨ x=u)/\(∀ n,bnd st n->bnd (bK t u st).2 n)/\((bK t u st).1=true->t.kind=1->bnd (bK t u st).2 t.n):=by
   obtain ⟨k,n,s,ks⟩:=t
   rw [bK]
   by_cases hk1:k=1
   ·have hr:=K7 ho hk1
    simp only [T.n] at hr
    rw [if_pos hk1]
    split
    ·rename_i t0 h0
     refine ⟨hst,fun x hx=>.inl hx,fun n h=>h,fun _ _=>⟨t0,?_⟩⟩
     exact h0
    ·refine ⟨by rw [List.length_set]; exact hst,fun x hx=>?_,fun m ⟨t1,h1⟩=>?_,fun _ _=>⟨u,?_⟩⟩
     ·rcases List.mem_or_eq_of_mem_set hx with hx|hx
      ·exact .inl hx
      ·simp only [Option.some.injEq] at hx
       exact .inr hx
     ·by_cases e:n.toNat=m.toNat
      ·refine ⟨u,?_⟩
       rw [<- e,List.getElem?_set_self (by omega)]
      ·refine ⟨t1,?_⟩
       rw [List.getElem?_set_ne e]
       exact h1
     ·show (st.set n.toNat (some u))[n.toNat]?=_
      rw [List.getElem?_set_self (by omega)]
   ·rw [if_neg hk1]
    split
    ·simp only [T.kids] at hks
     subst hks
     rw [eL]
     exact ⟨hst,fun x hx=>.inl hx,fun n h=>h,fun _ h=>absurd h hk1⟩
    ·exact ⟨hst,fun x hx=>.inl hx,fun n h=>h,fun _ h=>absurd h hk1⟩
  obtain ⟨k1,k2,k3,k4⟩:=key
  split
  ·rename_i hm
   obtain ⟨i1,i2,i3,i4⟩:=wx ts us (bK t u st).2 k1 hk' hl'
   refine ⟨i1,fun x hx=>?_,fun n h=>i3 n (k3 n h),fun h y hy hy1=>?_⟩
   ·rcases i2 x hx with hx|hx
    ·rcases k2 x hx with hx|rfl
     ·exact .inl hx
     ·exact .inr (List.mem_cons_self ..)
    ·exact .inr (List.mem_cons_of_mem _ hx)
   ·rcases List.mem_cons.1 hy with rfl|hy
    ·exact i3 _ (k4 hm hy1)
    ·exact i4 h y hy hy1
  ·refine ⟨k1,fun x hx=>?_,k3,fun h=>by cases h⟩
   rcases k2 x hx with hx|rfl
   ·exact .inl hx
   ·exact .inr (List.mem_cons_self ..)
theorem j2 {g f:T} {st:bt} (hg:Gl g) (hf:Fct f) (hst:StF st):StF (bK g f st).2/\(∀ n,bnd st n->bnd (bK g f st).2 n)/\((bK g f st).1=true->∀ y∈g.kids,y.kind=1->bnd (bK g f st).2 y.n):=by
 obtain ⟨k,n,s,ks⟩:=g
 have hk3:k=3:=hg.1
 rw [bK,if_neg (by omega)]
 split
 ·rename_i hd
  have hl:ks.length=f.kids.length:=by
   rw [l5] at hd
   simp only [Bool.and_eq_true,decide_eq_true_eq] at hd
   exact hd.2.2.2
  obtain ⟨i1,i2,i3,i4⟩:=wx ks f.kids st hst.1 hg.2.2 hl
  refine ⟨⟨i1,fun t ht=>?_⟩,i3,i4⟩
  rcases i2 t ht with h|h
  ·exact hst.2 t h
  ·exact hf.2.2 t h
 ·exact ⟨hst,fun n h=>h,fun h=>by cases h⟩
theorem zl {h:T} {st:bt} (hh:Gl h) (hst:StF st) (hb:∀ y∈h.kids,y.kind=1->bnd st y.n):Fct (wm h st):=by
 refine ⟨hh.1,?_,fun y hy=>?_⟩
 ·have h1:=hh.2.1
  unfold eC at h1 ⊢
  have e3:(wm h st).kind=3:=hh.1
  rw [if_neg (by have:=hh.1; omega),if_neg (by have:=hh.1; omega),if_pos hh.1] at h1
  rw [if_neg (by omega),if_neg (by omega),if_pos e3]
  simp only [Bool.and_eq_true,decide_eq_true_eq] at h1 ⊢
  refine ⟨rfl,h1.2.1,?_⟩
  show (h.kids.map (iZ st)).length<=4
  rw [List.length_map]
  exact h1.2.2
 ·have hy:y∈h.kids.map (iZ st):=hy
  obtain ⟨x,hx,rfl⟩:=List.mem_map.1 hy
  rw [iZ]
  split
  ·rename_i hk
   obtain ⟨t,ht⟩:=hb x hx hk
   have e:qZ st x.n=t:=by rw [qZ,ht]
   rw [e]
   exact hst.2 t (List.mem_of_getElem? ht)
  ·rename_i hk
   exact ⟨(hh.2.2 x hx).1,(hh.2.2 x hx).2,hk⟩
/- what follows -/
def ia (hd:T) (facts:List T):List T->List T->bt->List T
 | [],out,st=>if 60<out.length then out else eJ out (wm hd st)
 | g::gs,out,st=>if 60<out.length then out else facts.foldl (fun out f=>if (bK g f st).1=true then ia hd facts gs out (bK g f st).2 else out) out
def eM (hd:T) (facts:List T):List T->bt->List T
 | [],st=>[wm hd st]
 | g::gs,st=>facts.flatMap fun f=>if (bK g f st).1=true then eM hd facts gs (bK g f st).2 else []
def gR (out:List T) (t:T):List T:=if 60<out.length then out else eJ out t
theorem uy:∀ (l:List T) (out:List T),60<out.length->l.foldl gR out=out
 | [],out,_=>rfl
 | t::l,out,h=>by
  rw [List.foldl_cons,gR,if_pos h]
  exact uy l out h
theorem pE (hd:T) (facts:List T):∀ (gs out:List T) (st:bt),ia hd facts gs out st=(eM hd facts gs st).foldl gR out
 | [],out,st=>by rw [ia,eM]; rfl
 | g::gs,out,st=>by
  rw [ia,eM]
  split
  ·rename_i h
   exact (uy _ _ h).symm
  ·rename_i h
   clear h
   have:∀ (fs out:List T),fs.foldl (fun out f=>if (bK g f st).1=true then ia hd facts gs out (bK g f st).2 else out) out =
     (fs.flatMap fun f=>if (bK g f st).1=true then eM hd facts gs (bK g f st).2 else []).foldl gR out:=by
    intro fs
    induction fs with
    | nil=>intro out; rfl
    | cons f fs ih=>
     intro out
     rw [List.foldl_cons,List.flatMap_cons,List.foldl_append,ih]
     congr 1
     split
     ·exact pE hd facts gs out _
     ·rfl
   exact this facts out
/- the variables of the head are bound in the end -/
def ir (hd:T) (gs:List T) (st:bt):Prop:=∀ y∈hd.kids,y.kind=1->bnd st y.n ∨ ∃ g∈gs,∃ z∈g.kids,z.kind=1/\z.n=y.n
theorem kH {hd g f:T} {gs:List T} {st:bt} (h:ir hd (g::gs) st) (hg:Gl g) (hf:Fct f) (hst:StF st) (hm:(bK g f st).1=true):ir hd gs (bK g f st).2:=by
 obtain ⟨_,h2,h3⟩:=j2 hg hf hst
 intro y hy hk
 rcases h y hy hk with hb|⟨x,hx,z,hz,hz1,hzn⟩
 ·exact .inl (h2 _ hb)
 ·rcases List.mem_cons.1 hx with rfl|hx
  ·left
   rw [<- hzn]
   exact h3 hm z hz hz1
  ·exact .inr ⟨x,hx,z,hz,hz1,hzn⟩
theorem rO {hd:T} {facts:List T} (hh:Gl hd) (hfs:∀ f∈facts,Fct f):∀ (gs:List T) (st:bt),(∀ g∈gs,Gl g)->StF st->ir hd gs st->∀ x∈eM hd facts gs st,Fct x
 | [],st,_,hst,hc,x,hx=>by
  rw [eM,List.mem_singleton] at hx
  subst hx
  refine zl hh hst fun y hy hk=>?_
  rcases hc y hy hk with h|⟨g,hg,_⟩
  ·exact h
  ·cases hg
 | g::gs,st,hgs,hst,hc,x,hx=>by
  rw [eM,List.mem_flatMap] at hx
  obtain ⟨f,hf,hx⟩:=hx
  split at hx
  ·rename_i hm
   have hg:=hgs g (List.mem_cons_self ..)
   exact rO hh hfs gs _ (fun g' h'=>hgs g' (List.mem_cons_of_mem _ h')) (j2 hg (hfs f hf) hst).1 (kH hc hg (hfs f hf) hst hm) x hx
  ·cases hx
theorem GG (out:List T) (t:T):out.length<=(gR out t).length/\(gR out t).length<=max out.length 61:=by
 unfold gR
 split
 ·omega
 ·have:=zN out t
  omega
theorem tT:∀ (l out:List T),out.length<=(l.foldl gR out).length/\(l.foldl gR out).length<=max out.length 61
 | [],out=>by simp only [List.foldl_nil]; omega
 | t::l,out=>by
  rw [List.foldl_cons]
  have h1:=GG out t
  have h2:=tT l (gR out t)
  omega
theorem GW {out:List T} {t y:T} (h:y∈gR out t):y∈out ∨ y=t:=by
 unfold gR at h
 split at h
 ·exact .inl h
 ·exact oV h
theorem nP:∀ (l out:List T) (y:T),y∈l.foldl gR out->y∈out ∨ y∈l
 | [],out,y,h=>.inl h
 | t::l,out,y,h=>by
  rw [List.foldl_cons] at h
  rcases nP l _ y h with h|h
  ·rcases GW h with h|rfl
   ·exact .inl h
   ·exact .inr (List.mem_cons_self ..)
  ·exact .inr (List.mem_cons_of_mem _ h)
theorem Cx:∀ (l out:List T) (y:T),y∈out->y∈l.foldl gR out
 | [],out,y,h=>h
 | t::l,out,y,h=>by
  rw [List.foldl_cons]
  refine Cx l _ y ?_
  unfold gR
  split
  ·exact h
  ·exact (FC out t).2 y h
theorem FB:∀ (l out:List T) (y:T),y∈l->60<(l.foldl gR out).length ∨ y∈l.foldl gR out
 | t::l,out,y,h=>by
  rw [List.foldl_cons]
  rcases List.mem_cons.1 h with rfl|h
  ·by_cases hc:60<out.length
   ·left
    have h1:=GG out y
    have h2:=tT l (gR out y)
    omega
   ·right
    refine Cx l _ _ ?_
    rw [gR,if_neg hc]
    exact (FC out y).1
  ·exact FB l _ y h
theorem py:∀ (l out:List T),Sorted out->(∀ x∈out,okO x)->(∀ x∈l,okO x)->Sorted (l.foldl gR out)
 | [],out,h,_,_=>h
 | t::l,out,h,ho,hl=>by
  rw [List.foldl_cons]
  have ht:=hl t (List.mem_cons_self ..)
  refine py l _ ?_ (fun x hx=>?_) fun x hx=>hl x (List.mem_cons_of_mem _ hx)
  ·unfold gR
   split
   ·exact h
   ·exact o6 h ho ht
  ·rcases GW hx with hx|rfl
   ·exact ho x hx
   ·exact ht
theorem zg (l:List T) (t:T):kx l t=true↔t∈l:=by
 rw [kx,List.any_eq_true]
 constructor
 ·rintro ⟨x,hx,he⟩
  rw [pJ] at he
  subst he
  exact hx
 ·intro h
  exact ⟨t,h,(pJ _ _).2 rfl⟩
/- a list that was cut off is longer than the facts -/
theorem K4 {facts l:List T} (hf:facts.length<=60) (hl:∀ x∈l,okO x):(l.foldl gR []).all (kx facts)=l.all (kx facts):=by
 rw [Bool.eq_iff_iff,List.all_eq_true,List.all_eq_true]
 constructor
 ·intro h x hx
  rcases FB l [] x hx with hc|hm
  ·exfalso
   have hs:=(py l [] trivial (by simp) hl).nodup
   have hsub:∀ y∈l.foldl gR [],y∈facts:=fun y hy=>(zg _ _).1 (h y hy)
   have:=List.Nodup.length_le_of_subset hs hsub
   omega
  ·exact h x hm
 ·intro h x hx
  rcases nP l [] x hx with hm|hm
  ·cases hm
  ·exact h x hm

end Go.Proofs.YtemmhhdnlbmicaaGreat

/- Rounds of facts: the plain law. -/
namespace Go.Proofs.YtemmhhdnlbmicaaGreat
open Go Go.RowKit
def f0 (p:List C) (facts:List T):List T:=p.flatMap fun c=>eM c.head facts c.body st0
def gB (p:List C) (facts:List T):List T:=(f0 p facts).foldl eJ facts
def gM (p:List C) (facts:List T):List T:=(f0 p facts).foldl gR facts
theorem oo:∀ (l out:List T),out.length<=(l.foldl eJ out).length/\(l.foldl eJ out).length<=out.length+l.length
 | [],out=>⟨Nat.le_refl _,Nat.le_refl _⟩
 | t::l,out=>by
  rw [List.foldl_cons,List.length_cons]
  have h1:=zN out t
  have h2:=oo l (eJ out t)
  omega
theorem G5:∀ (l out:List T) (y:T),y∈l.foldl eJ out->y∈out ∨ y∈l
 | [],out,y,h=>.inl h
 | t::l,out,y,h=>by
  rw [List.foldl_cons] at h
  rcases G5 l _ y h with h|h
  ·rcases oV h with h|rfl
   ·exact .inl h
   ·exact .inr (List.mem_cons_self ..)
  ·exact .inr (List.mem_cons_of_mem _ h)
theorem wS:∀ (l out:List T),Sorted out->(∀ x∈out,okO x)->(∀ x∈l,okO x)->Sorted (l.foldl eJ out)
 | [],out,h,_,_=>h
 | t::l,out,h,ho,hl=>by
  rw [List.foldl_cons]
  have ht:=hl t (List.mem_cons_self ..)
  refine wS l _ (o6 h ho ht) (fun x hx=>?_) fun x hx=>hl x (List.mem_cons_of_mem _ hx)
  rcases oV hx with hx|rfl
  ·exact ho x hx
  ·exact ht
theorem JD:∀ (l out:List T),(60<(l.foldl eJ out).length/\60<(l.foldl gR out).length) ∨ ((l.foldl eJ out).length<=60/\l.foldl gR out=l.foldl eJ out)
 | [],out=>by
  simp only [List.foldl_nil]
  by_cases h:60<out.length
  ·exact .inl ⟨h,h⟩
  ·exact .inr ⟨by omega,trivial⟩
 | t::l,out=>by
  by_cases h:60<out.length
  ·left
   have h1:=oo (t::l) out
   rw [uy _ _ h]
   omega
  ·rw [List.foldl_cons,List.foldl_cons,gR,if_neg h]
   exact JD l (eJ out t)
theorem CN {hd:T} {facts:List T}:∀ (gs:List T) (st:bt),(eM hd facts gs st).length<=facts.length ^ gs.length
 | [],st=>by rw [eM]; simp
 | g::gs,st=>by
  rw [eM,List.length_cons,Nat.pow_succ]
  have:∀ fs:List T,(fs.flatMap fun f=>if (bK g f st).1=true then eM hd facts gs (bK g f st).2 else []).length<=facts.length ^ gs.length * fs.length:=by
   intro fs
   induction fs with
   | nil=>simp
   | cons f fs ih=>
    rw [List.flatMap_cons,List.length_append,List.length_cons,Nat.mul_succ]
    have:(if (bK g f st).1=true then eM hd facts gs (bK g f st).2 else []).length<=facts.length ^ gs.length:=by
     split
     ·exact CN gs _
     ·simp
    omega
  exact this facts
/- the facts of a stage -/
structure Fs (f:List T):Prop where
 sorted:Sorted f
 fct:∀ x∈f,Fct x
theorem Fs.nil:Fs []:=⟨trivial,by simp⟩
theorem Fs.okO {f:List T} (h:Fs f):∀ x∈f,okO x:=fun x hx=>(h.fct x hx).ok.2.2.1
structure Pf (p:List C):Prop where
 len:p.length<=20
 parts:∀ c∈p,Gl c.head/\(∀ g∈c.body,Gl g)/\ir c.head c.body st0
 three:∀ c∈p,c.body.length<=3
theorem C5 {p:List C} {f:List T} (hp:Pf p) (hf:Fs f):∀ x∈f0 p f,Fct x:=by
 intro x hx
 rw [f0,List.mem_flatMap] at hx
 obtain ⟨c,hc,hx⟩:=hx
 obtain ⟨h1,h2,h3⟩:=hp.parts c hc
 exact rO h1 hf.fct c.body st0 h2 AN h3 x hx
theorem Fj {c:C} {f:List T} (h3:c.body.length<=3) (hf:f.length<=60):(eM c.head f c.body st0).length<=216000:=by
 refine Nat.le_trans (CN _ _) ?_
 have h1:f.length ^ c.body.length<=60 ^ c.body.length:=Nat.pow_le_pow_left hf _
 have h2:60 ^ c.body.length<=60 ^ 3:=Nat.pow_le_pow_right (by decide) h3
 exact Nat.le_trans h1 (Nat.le_trans h2 (by decide))
theorem KX {p:List C} {f:List T} (hp:Pf p) (hf:Fs f):Fs (gB p f):=by
 have h1:=C5 hp hf
 refine ⟨wS _ _ hf.sorted hf.okO fun x hx=>(h1 x hx).ok.2.2.1,fun x hx=>?_⟩
 rcases G5 _ _ _ hx with hx|hx
 ·exact hf.fct x hx
 ·exact h1 x hx
theorem vg {p:List C} {f:List T} (hp:Pf p) (hf:Fs f):Fs (gM p f):=by
 have h1:=C5 hp hf
 refine ⟨py _ _ hf.sorted hf.okO fun x hx=>(h1 x hx).ok.2.2.1,fun x hx=>?_⟩
 rcases nP _ _ _ hx with hx|hx
 ·exact hf.fct x hx
 ·exact h1 x hx
theorem rL (p:List C) (f:List T) (h:f.length<=61):f.length<=(gM p f).length/\(gM p f).length<=61:=by
 have:=tT (f0 p f) f
 rw [gM]
 omega
def stI (p:List C):Nat->List T->Nat->Option (List T × Nat)
 | 0,f,n=>some (f,n)
 | k+1,f,n=>if 60<(gB p f).length then none else if (gB p f).length=f.length then some (f,n) else stI p k (gB p f) (n+1)
def stS (p:List C):Nat->List T->Nat->List T × Nat
 | 0,f,n=>(f,n)
 | k+1,f,n=>if (gM p f).length=f.length ∨ 60<f.length then (f,n) else stS p k (gM p f) (n+1)
theorem JJ (p:List C):∀ (k:Nat) (f:List T) (n:Nat),f.length<=60->(stI p k f n=none/\60<(stS p k f n).1.length) ∨ (stI p k f n=some (stS p k f n)/\(stS p k f n).1.length<=60)
 | 0,f,n,hf=>.inr ⟨rfl,hf⟩
 | k+1,f,n,hf=>by
  rw [stI,stS]
  rcases JD (f0 p f) f with ⟨h1,h2⟩|⟨h1,h2⟩
  ·left
   have h1:60<(gB p f).length:=h1
   have h2:60<(gM p f).length:=h2
   rw [if_pos h1,if_neg (by omega)]
   refine ⟨rfl,?_⟩
   cases k with
   | zero=>exact h2
   | succ k=>
    rw [stS,if_pos (.inr h2)]
    exact h2
  ·have h1:(gB p f).length<=60:=h1
   have h2:gM p f=gB p f:=h2
   rw [if_neg (by omega),h2]
   by_cases he:(gB p f).length=f.length
   ·rw [if_pos he,if_pos (.inl he)]
    exact .inr ⟨rfl,hf⟩
   ·rw [if_neg he,if_neg (by omega)]
    exact JJ p k _ _ h1
theorem GZ (p:List C):∀ (j k:Nat) (f:List T) (n:Nat),j<=k->61<=j+f.length->f.length<=60->stI p k f n=stI p j f n
 | 0,k,f,n,_,h1,h2=>by omega
 | j+1,0,f,n,h,_,_=>by omega
 | j+1,k+1,f,n,h,h1,h2=>by
  rw [stI,stI]
  split
  ·rfl
  ·split
   ·rfl
   ·rename_i h3 h4
    have:=oo (f0 p f) f
    have h5:f.length<=(gB p f).length:=this.1
    exact GZ p j k _ _ (by omega) (by omega) (by omega)
theorem Iw {p:List C} (hp:Pf p):∀ (k:Nat) (f:List T) (n:Nat),Fs f->f.length<=61->Fs (stS p k f n).1/\(stS p k f n).1.length<=61
 | 0,f,n,hf,hl=>⟨hf,hl⟩
 | k+1,f,n,hf,hl=>by
  rw [stS]
  split
  ·exact ⟨hf,hl⟩
  ·exact Iw hp k _ _ (vg hp hf) (rL p f hl).2
def gQ (r:Int):Nat:=if 60<r then 61 else r.toNat
def dx (p:List C) (r:Int):List T × Bool:=
 if (f1 p && !decide (r<0))=true then
  (if (stS p (gQ r) [] 0).1.length<=60 then ((stS p (gQ r) [] 0).1,true) else ([],false))
 else ([],false)
theorem Pf.take {p:List C} (h:Pf p) (j:Nat):Pf (p.take j):=⟨by have:=h.len; rw [List.length_take]; omega,fun c hc=>h.parts c (List.mem_of_mem_take hc),fun c hc=>h.three c (List.mem_of_mem_take hc)⟩
theorem rn (p:List C) (f:List T) (j:Nat) (hj:j<p.length):f0 (p.take (j+1)) f=f0 (p.take j) f++eM p[j].head f p[j].body st0:=by
 rw [f0,List.take_succ_eq_append_getElem hj,List.flatMap_append,List.flatMap_cons,List.flatMap_nil,List.append_nil]
 rfl
theorem CS {p:List C} {f:List T} (hp:Pf p) (hf:f.length<=60):∀ j,j<=p.length->(f0 (p.take j) f).length<=j * 216000
 | 0,_=>by simp [f0]
 | j+1,h=>by
  have hj:j<p.length:=by omega
  rw [rn p f j hj,List.length_append]
  have h1:=CS hp hf j (by omega)
  have h2:=Fj (hp.three _ (List.getElem_mem hj)) hf
  omega
theorem FY (p:List C) (r:Int):(stI p r.toNat [] 0=none/\60<(stS p (gQ r) [] 0).1.length) ∨ (stI p r.toNat [] 0=some (stS p (gQ r) [] 0)/\(stS p (gQ r) [] 0).1.length<=60):=by
 have e:stI p r.toNat [] 0=stI p (gQ r) [] 0:=by
  unfold gQ
  split
  ·exact GZ p 61 _ [] 0 (by omega) (by simp) (by simp)
  ·rfl
 rw [e]
 exact JJ p _ [] 0 (by simp)
theorem Fs.w {f:List T} (h:Fs f):wL f<=f.length * 34:=zt f 34 fun t ht=>(h.fct t ht).ok.2.2.2
theorem GP {p:List C} (hp:f1 p=true->Pf p) (r:Int):(dx p r).1.length<=60/\wL (dx p r).1<=2040:=by
 unfold dx
 split
 ·rename_i h
  rw [Bool.and_eq_true] at h
  have h1:=(Iw (hp h.1) (gQ r) [] 0 Fs.nil (by simp)).1
  split
  ·rename_i h2
   have:=h1.w
   refine ⟨h2,?_⟩
   show wL (stS p (gQ r) [] 0).1<=2040
   omega
  ·simp [wL]
 ·simp [wL]

end Go.Proofs.YtemmhhdnlbmicaaGreat

/- slices.Insert of one element into a row of the caller's own. -/
namespace Go.Proofs.YtemmhhdnlbmicaaGreat
open Go Go.RowKit
section
variable {P:Program} {w w0:World} {X:List Nat} {L:List Item} {S:az} {K:Value->World->Prop}
attribute [local irreducible] Run CondV aj bd
theorem On {T ty:TypeId} {cs:List Bool} {a:Option Addr} {n c:Nat} {Ek:TypeId × Nat} (hu:dA P T=some Ek) (hk:K (.int .i64 c) w):Run P (ar .cap #[T] ty cs [.slice a n c]) w K:=by
 obtain ⟨e,k⟩:=Ek
 obtain ⟨hT,_⟩:=gu hu
 refine Run.of ?_ hk
 simp [ar,builtin,Builtin.cap_,run_underlying hT,goInt]
theorem Jr {T ty e:TypeId} {k h g o len cap:Nat} (hT:dA P T=some (e,k)) (hh:h<=cap) (hk:K (.slice (some ⟨g,o,none⟩) h cap) w) :
  Run P (sOp (.slice T (.const (.slice (some ⟨g,o,none⟩) len cap)) none (some (.const (.int .i64 h))) none) ty) w K:=by
 refine IO hT hh ?_
 split
 ·exact hk
 ·simpa [f4] using hk
theorem iz {T ty e:TypeId} {k l g o len cap:Nat} (hT:dA P T=some (e,k)) (hl:l<=len) (hc:l<cap) (hk:K (.slice (some ⟨g,o+l * k,none⟩) (len - l) (cap - l)) w) :
  Run P (sOp (.slice T (.const (.slice (some ⟨g,o,none⟩) len cap)) (some (.const (.int .i64 l))) none none) ty) w K:=by
 refine y4 hT hl ?_
 rw [if_neg (by omega)]
 simpa [f4] using hk
theorem rV (h:Inv w0 X L S w) {T ty e:TypeId} {k o dl dc sl sc:Nat} {cs:List Bool} {a:Addr} (j g n:Nat) (cur:Array Value) (E:TypeId) (news:List Value) (hT:dA P T=some (e,k)) (hi:L[j]?=some (.blk g (.cells cur E)))
  (hn:n=min sl dl) (hl:news.length=n * k) (hnews:∀ j u,news[j]?=some u->w.cell? (a.add j)=some u) (hfit:o+news.length<=cur.size) (h1:∀ u∈news,u.oneCell'=true)
  (hk:∀ w',Inv w0 X (L.set j (.blk g (.cells (bp cur o news) E))) S w'->K (goInt n) w') :
  Run P (ar .copy #[T,T] ty cs [.slice (some ⟨g,o,none⟩) dl dc,.slice (some a) sl sc]) w K:=by
 obtain ⟨hu,i,hi',hs⟩:=gu hT
 have hg:w.heap[g]?=some (.cells cur E):=h.its _ (List.mem_of_getElem? hi)
 have hld:=run_loadCells_list (P:=P) w a news hnews
 have hn:n=Nat.min sl dl:=hn
 rw [hl,hn] at hld
 have hst:=run_storeCells_at P g o E news 0 cur w hg (by simpa using hfit) h1
 rw [hn] at hk
 refine Run.of (v:=goInt (Nat.min sl dl)) (w':=w.setRow g (bp cur o news)) ?_ (hk _ (h.setBlk hi _ (CH hg)))
 simp [ar,builtin,Builtin.copy_,run_underlying hu,Builtin.lenOf,Builtin.firstCells,sizeOf,typeInfo,hi',hs,hld,hst,bp]
theorem Kl (h:Inv w0 X L S w) {T U ty e:TypeId} {k by_ j g i m cap:Nat} {cs:List Bool} {z:Value} {cur:Array Value} {E:TypeId} (hT:oG P T=some (e,k,by_,z)) (hU:P.underlying U=some (.int .i64)) (hk0:0<k)
  (hi:L[j]?=some (.blk g (.cells cur E))) (hsz:i * k<=cur.size) (hm:0<m) (hg:cap<i+m) (hfit:i+m<=4294967296) (hby:by_<=32768)
  (hk:∀ (nb nc:Nat) (c:Array Value) w',i+m<=nc->nc<=maxLen->c.size=nc * k->c.toList.take (i * k)=cur.toList.take (i * k)->Inv w0 X (L++[.blk nb (.cells c e)]) S w'->K (.slice (some ⟨nb,0,none⟩) (i+m) nc) w') :
  Run P (ar .append #[T,U] ty cs [.slice (some ⟨g,0,none⟩) i cap,.int .i64 m]) w K:=by
 obtain ⟨hu,inf,hi',hz,hs,hb,hzs⟩:=il hT
 have hgw:w.heap[g]?=some (.cells cur E):=h.its _ (List.mem_of_getElem? hi)
 obtain ⟨olds,ho⟩:∃ olds,olds=cur.toList.take (i * k):=⟨_,rfl⟩
 have hlo:olds.length=i * inf.size:=by rw [ho,hs,List.length_take,Array.length_toList]; omega
 have holds:∀ j v,olds[j]?=some v->w.cell? ((⟨g,0,none⟩:Addr).add j)=some v:=by
  intro j v hj
  rw [f4,Nat.zero_add,cell_of_row w g j cur E (0,0) hgw]
  rw [ho,List.getElem?_take] at hj
  split at hj
  ·simpa using hj
  ·cases hj
 have hbytes:(i+m) * by_<=140737488355328:=Nat.le_trans (Nat.mul_le_mul hfit hby) (by decide)
 have hgf:=growslice_fits hg hbytes
 have hn:¬ (i+m<=cap):=by omega
 have hw:IntKind.i64.wrap (m:Int)=m:=IntWalk.i64_in _ (by omega)
 have hneg:¬ ((m:Int)<0):=by omega
 have hns:¬ (m * k=0):=Nat.mul_ne_zero (by omega) (by omega)
 have h63':¬ (9223372036854775807<(i:Int)+(m:Int)):=by omega
 have h48i:¬ (281474976710656<(m:Int) * (by_:Int)):=by
  have:m * by_<=(i+m) * by_:=Nat.mul_le_mul_right _ (by omega)
  rw [<- Int.natCast_mul]
  omega
 have h48':¬ (281474976710656<Builtin.nextslicecap (i+m) cap * by_):=by omega
 have hfo:=run_firstCells_some (P:=P) w.drew inf.size i ⟨g,0,none⟩ i cap olds hlo (by simpa using holds)
 rw [hs] at hfo
 refine Run.of (v:=.slice (some ⟨w.heap.size,0,none⟩) (i+m) (grownCap w (i+m) cap e))
  (w':=w.drew.alloc (.cells (olds.toArray++Builtin.zeroCells z.cells m++Builtin.zeroCells z.cells (grownCap w (i+m) cap e - (i+m))) e)) ?_ ?_
 ·simp [ar,builtin,Builtin.append_,run_underlying hu,run_underlying hU,sizeOf,typeInfo,zeroValue,hi',hz,hs,hb,asInt,asIntOf,hw,hn,hneg,hns,h63',h48',h48i,Question.forced,hfo,newRow,grownCap]
 ·have hge:=grownCap_ge w (i+m) cap e
  have hle:=grownCap_le_maxLen w (i+m) cap e (by simp only [maxLen]; omega)
  refine hk _ _ _ _ hge hle ?_ ?_ (h.draw.alloc _)
  ·simp only [Array.size_append,List.size_toArray,size_zeroCells,hzs,hlo,hs]
   rw [<- Nat.add_mul,<- Nat.add_mul]
   congr 1
   omega
  ·rw [<- ho]
   have:i * k=olds.length:=by rw [hlo,hs]
   rw [this]
   simp
theorem H9 (h:Inv w0 X L S w) {f:FuncId} {fn:Func} {T U e ea eb:TypeId} {k i j a b oa ob la lb cpa cpb:Nat} {ca cb:Array Value} (hf:P.funcs[f]?=some fn) (hn:(fn.name == "runtime.NumGoroutine")=false) (hb:fn.body.isNone=true)
  (hx:(Extern.findNext fn).isNone=true) (hy:Extern.find fn=some (Extern.SlicesOverlaps.overlaps #[T,T] #[U])) (hT:dA P T=some (e,k)) (hi:L[i]?=some (.blk a (.cells ca ea))) (hj:L[j]?=some (.blk b (.cells cb eb)))
  (hne:a≠b) (hcb:cb.size≠0) (hk:K (.bool false) w):Run P (aH (.func (.func f) #[] #[]) [.slice (some ⟨a,oa,none⟩) la cpa,.slice (some ⟨b,ob,none⟩) lb cpb]) w K:=by
 obtain ⟨hu,inf,hi',hs⟩:=gu hT
 have hga:w.heap[a]?=some (.cells ca ea):=h.its _ (List.mem_of_getElem? hi)
 have hgb:w.heap[b]?=some (.cells cb eb):=h.its _ (List.mem_of_getElem? hj)
 have hov:=Lib.run_overlaps_apart (P:=P) w T U e hu k (fun w=>by simp [sizeOf,typeInfo,hi',hs]) ⟨a,oa,none⟩ ⟨b,ob,none⟩ la cpa lb cpb hne ea eb ca.size cb.size (by simp [World.shape?,hga]) (by simp [World.shape?,hgb]) hcb
  (by simp [World.frozen?,hga]) (by simp [World.frozen?,hga])
 have hx':Extern.findNext fn=none:=by simpa using hx
 refine Run.of (v:=.bool false) (w':=w) ?_ hk
 have hcf:=run_callFunc_extern hf hn hb hx' hy #[.slice (some ⟨a,oa,none⟩) la cpa,.slice (some ⟨b,ob,none⟩) lb cpb] w
 rw [hov] at hcf
 simp [aH,Deferred.ofValue,invoke,hcf,Result.andThen]
end
theorem ow (c:Array Value) (o:Nat) (vs:List Value):(bp c o vs).toList=c.toList.take o++vs++c.toList.drop (o+vs.length):=rfl
theorem Oa {c:Array Value} {p:Nat} {cs D:List Value} (h:p+cs.length+D.length<=c.size) :
  (bp (bp c p cs) (p+cs.length) D).toList.take (p+cs.length+D.length)=c.toList.take p++cs++D:=by
 have e:(bp c p cs).toList.take (p+cs.length)=c.toList.take p++cs:=by
  rw [ow,List.take_left']
  simp; omega
 rw [ow (bp c p cs),e,List.take_left']
 simp; omega
theorem NS {c:Array Value} {p:Nat} {cs D:List Value} (h:p+cs.length+D.length<=c.size) :
  (bp (bp c (p+cs.length) D) p cs).toList.take (p+cs.length+D.length)=c.toList.take p++cs++D:=by
 have e1:(bp c (p+cs.length) D).toList.take p=c.toList.take p:=by
  rw [ow,List.append_assoc,List.take_append_of_le_length (by simp; omega),List.take_take,Nat.min_eq_left (by omega)]
 have e2:(bp c (p+cs.length) D).toList.drop (p+cs.length)=D++c.toList.drop (p+cs.length+D.length):=by
  rw [ow,List.append_assoc,List.drop_left']
  simp; omega
 rw [ow (bp c (p+cs.length) D),e1,e2,<- List.append_assoc,List.take_left']
 simp; omega
section
attribute [local irreducible] Run CondV aj bd
set_option maxHeartbeats 2000000 in
theorem DH {S:az} {v:Value} {css:List (List Value)} {cs:List Value} {ub i:Nat} (hk4:∀ c∈css,c.length=4) (h1:∀ c∈css,∀ u∈c,u.oneCell'=true) (hc4:cs.length=4) (hc1:∀ u∈cs,u.oneCell'=true)
  (hi:i<=css.length) (hn:css.length<=100000000) :
  Tri Tryz.prog xC [v,.int .i64 i,.slice (some ⟨ub,0,none⟩) 1 1] [bj v ab 4 css,.blk ub (.cells cs.toArray ab)] S fun r I' S'=>S'=S/\I'=[bj r ab 4 (css.take i++cs::css.drop i)]:=by
 intro w hI
 obtain ⟨X,hX⟩:∃ X,X=bV [bj v ab 4 css,.blk ub (.cells cs.toArray ab)]:=⟨_,rfl⟩
 rw [<- hX] at hI ⊢
 have hI:Inv w X ([.blk ub (.cells cs.toArray ab)]++[bj v ab 4 css]) S w:=hI.perm (List.Perm.swap ..)
 have hcl:(css.drop i).flatten.length=(css.length - i) * 4:=by
  rw [kA (k:=4) (fun c hc=>hk4 c (List.mem_of_mem_drop hc)),List.length_drop]
 have hct:(css.take i).flatten.length=i * 4:=by
  rw [kA (k:=4) (fun c hc=>hk4 c (List.mem_of_mem_take hc)),List.length_take,Nat.min_eq_left hi]
 have hsp:css.flatten=(css.take i).flatten++(css.drop i).flatten:=by rw [<- List.flatten_append,List.take_append_drop]
 have hd1:∀ u∈(css.drop i).flatten,u.oneCell'=true:=fun u hu=>by
  obtain ⟨c,hc,hu⟩:=List.mem_flatten.1 hu
  exact h1 c (List.mem_of_mem_drop hc) u hu
 obtain ⟨hfl,ho⟩:=hI.openRow
 have hv:∃ a cap,v=.slice a css.length cap/\css.length<=cap:=by
  rcases ho with ⟨rfl,h0⟩|⟨g,cap,cur,rfl,hnc,_⟩
  ·exact ⟨none,0,by rw [h0],by omega⟩
  ·exact ⟨_,cap,rfl,hnc⟩
 obtain ⟨a,cap,rfl,hncap⟩:=hv
 refine pX ?_
 unfold lO
 refine y4 av hi ?_
 refine fx av ?_
 refine bO ?_
 refine bk (fun hb=>absurd hb (by decide)) (fun _=>?_)
 refine fx av ?_
 refine bO ?_
 refine bk (fun hin=>?_) (fun hin=>?_)
 ·have hin:i=css.length:=by omega
  refine fo hI 1 (m:=1) (o:=0) cs bD (by omega) rfl (by omega) (fun j u hj=>?_) hc1 (by omega) (by omega) fun v' w' hI=>?_
  ·rw [hI.cellL (i:=0) rfl,Nat.zero_add]
   simpa using hj
  ·have e:css.take i++cs::css.drop i=css++[cs]:=by rw [hin,List.take_length,List.drop_length]
   rw [e]
   rw [fW] at hI
   exact ⟨_,_,_,rfl,hI.pick [false,true],Ext.refl _ _ _,rfl,rfl⟩
 have hlt:i<css.length:=by omega
 rcases ho with ⟨_,h0⟩|⟨g,cap',cur,hveq,hnc,hcm,hcs,ht,hJ⟩
 ·omega
 simp only [Value.slice.injEq] at hveq
 obtain ⟨rfl,_,rfl⟩:=hveq
 replace hI:=hJ
 have hcapt:cur.toList.take (i * 4)=(css.take i).flatten:=by
  have:cur.toList.take (i * 4)=(cur.toList.take (css.length * 4)).take (i * 4):=by rw [List.take_take,Nat.min_eq_left (by omega)]
  rw [this,ht,hsp,List.take_left' hct]
 have hD:∀ j u,(css.drop i).flatten[j]?=some u->cur[i * 4+j]?=some u:=by
  intro j u hj
  have hjl:=(List.getElem?_eq_some_iff.1 hj).1
  have:css.flatten[i * 4+j]?=some u:=by rw [hsp,List.getElem?_append_right (by omega),hct,Nat.add_sub_cancel_left]; exact hj
  rw [<- ht,List.getElem?_take,if_pos (by omega)] at this
  simpa using this
 have hsz:(css.length - i) * 4+(i * 4)=css.length * 4:=by omega
 have hnd:=hI.nd
 have hne:ub≠g:=by
  intro e
  rw [e] at hnd
  simp [bV,Item.foot] at hnd
 have hfin:∀ (nb nc:Nat) (c:Array Value) (w':World) (hI:Inv w X ([.blk nb (.cells c ab)]:List Item) S w') (_:css.length+1<=nc) (_:nc<=maxLen) (_:c.size=nc * 4) (_:c.toList.take (i * 4+cs.length+(css.drop i).flatten.length)=(css.take i).flatten++cs++(css.drop i).flatten),
   ∃ v I' S',Ending.returned (.slice (some ⟨nb,0,none⟩) (css.length+1) nc)=.returned v/\Inv w X I' S' w'/\Ext w.heap.size X S S'/\S'=S/\I'=[bj v ab 4 (css.take i++cs::css.drop i)]:=by
  intro nb nc c w' hI hnc hcm hcs htk
  have hI:=Inv.closeRow (A:=[]) (k:=4) (n:=css.length+1) hI hnc hcm hcs
  have e1:(css.length+1) * 4=i * 4+cs.length+(css.drop i).flatten.length:=by omega
  have e2:(css.take i++cs::css.drop i).length=css.length+1:=by simp; omega
  have e3:(css.take i++cs::css.drop i).flatten=(css.take i).flatten++cs++(css.drop i).flatten:=by simp
  refine ⟨_,_,_,rfl,hI,Ext.refl _ _ _,rfl,?_⟩
  rw [e1,htk,bj,e2,e3]
  rfl
 simp only [maxLen] at hcm
 refine bL (by omega) ?_
 refine On av ?_
 refine d6 ?_
 refine bk (fun hgr=>?_) (fun hgr=>?_)
 ·have hgr':cap<css.length+1:=by omega
  refine Jr av (by omega) ?_
  refine bL (by omega) ?_
  refine qz (by omega) ?_
  have e:((css.length:Int)+1 - (i:Int))=((css.length+1 - i:Nat):Int):=by omega
  rw [show ((css.length:Int)+((1:Nat):Int) - (i:Int))=((css.length+1 - i:Nat):Int) by omega]
  refine Kl hI bD (U:=ff) (by kernel_rfl) (by omega) (j:=1) rfl (by omega) (by omega) (by omega) (by omega) (by omega) fun nb nc c w' hnc hcm2 hcsz hctk hI=>?_
  have hI:Inv w X [.blk ub (.cells cs.toArray ab),.blk g (.cells cur ab),.blk nb (.cells c ab)] S w':=hI
  rw [show i+(css.length+1 - i)=css.length+1 by omega] at hnc ⊢
  refine iz av (by omega) (by omega) ?_
  rw [Nat.zero_add]
  refine rV hI 2 nb 1 c ab cs av rfl (by omega) (by omega) (fun j u hj=>?_) (by omega) hc1 fun w' hI=>?_
  ·rw [f4,hI.cellL (i:=0) rfl,Nat.zero_add]
   simpa using hj
  have hI:Inv w X [.blk ub (.cells cs.toArray ab),.blk g (.cells cur ab),.blk nb (.cells (bp c (i * 4) cs) ab)] S w':=hI
  have hsz2:(bp c (i * 4) cs).size=c.size:=fV _ _ _ (by omega)
  refine ⟨fun D dk dn cP cO cQ cS bT bS cW w_=>(D 0=true->cW=.slice (some ⟨nb,0,none⟩) (css.length+1) nc)/\(D 1=true->bS=.int .i64 i)/\(D 2=true->bT=.int .i64 (1:Nat))/\(D 3=true->cS=.int .i64 (i+1:Nat))/\(D 4=true->cQ=.slice (some ⟨nb,(i+1) * 4,none⟩) (css.length+1 - (i+1)) (nc - (i+1)))/\(D 5=true->cO=.slice (some ⟨g,0,none⟩) css.length cap)/\(D 6=true->cP=.int .i64 i)/\(D 7=true->dn=.slice (some ⟨g,i * 4,none⟩) (css.length - i) (cap - i))/\(D 8=true->dk=goInt (css.length - i:Nat))/\Inv w X [.blk ub (.cells cs.toArray ab),.blk g (.cells cur ab),.blk nb (.cells (cond (D 8) (bp (bp c (i * 4) cs) (i * 4+cs.length) (css.drop i).flatten) (bp c (i * 4) cs)) ab)] S w_,⟨ae,ae,ae,ae,ae,ae,ae,ae,ae,hI.draw⟩,⟨?_,?_,?_,?_,?_,?_,?_,?_,?_,trivial⟩,?_⟩
  ·intro D aY  dk dn cP cO cQ cS bT bS cW w_
   rintro ⟨aA,aB,aC,aD,aw,aE,aF,aJ,aL,hI⟩
   exact ⟨fun _=>rfl,aB,aC,aD,aw,aE,aF,aJ,aL,hI⟩
  ·intro D aY  dk dn cP cO cQ cS bT bS cW w_
   rintro ⟨aA,aB,aC,aD,aw,aE,aF,aJ,aL,hI⟩
   exact ⟨aA,fun _=>rfl,aC,aD,aw,aE,aF,aJ,aL,hI⟩
  ·intro D aY  dk dn cP cO cQ cS bT bS cW w_
   rintro ⟨aA,aB,aC,aD,aw,aE,aF,aJ,aL,hI⟩
   exact ⟨aA,aB,fun _=>rfl,aD,aw,aE,aF,aJ,aL,hI⟩
  ·intro D aY dC gA dk dn cP cO cQ cS bT bS cW w_
   rintro ⟨aA,aB,aC,aD,aw,aE,aF,aJ,aL,hI⟩
   obtain rfl:=aB dC
   obtain rfl:=aC gA
   refine bL (by omega) ?_
   exact ⟨aA,aB,aC,fun _=>rfl,aw,aE,aF,aJ,aL,hI⟩
  ·intro D aY cc mO dk dn cP cO cQ cS bT bS cW w_
   rintro ⟨aA,aB,aC,aD,aw,aE,aF,aJ,aL,hI⟩
   obtain rfl:=aA cc
   obtain rfl:=aD mO
   refine iz av (by omega) (by omega) ?_
   rw [Nat.zero_add]
   exact ⟨aA,aB,aC,aD,fun _=>rfl,aE,aF,aJ,aL,hI⟩
  ·intro D aY  dk dn cP cO cQ cS bT bS cW w_
   rintro ⟨aA,aB,aC,aD,aw,aE,aF,aJ,aL,hI⟩
   exact ⟨aA,aB,aC,aD,aw,fun _=>rfl,aF,aJ,aL,hI⟩
  ·intro D aY  dk dn cP cO cQ cS bT bS cW w_
   rintro ⟨aA,aB,aC,aD,aw,aE,aF,aJ,aL,hI⟩
   exact ⟨aA,aB,aC,aD,aw,aE,fun _=>rfl,aJ,aL,hI⟩
  ·intro D aY d3 ge dk dn cP cO cQ cS bT bS cW w_
   rintro ⟨aA,aB,aC,aD,aw,aE,aF,aJ,aL,hI⟩
   obtain rfl:=aE d3
   obtain rfl:=aF ge
   refine iz av (by omega) (by omega) ?_
   rw [Nat.zero_add]
   exact ⟨aA,aB,aC,aD,aw,aE,aF,fun _=>rfl,aL,hI⟩
  ·intro D aY cR jZ dk dn cP cO cQ cS bT bS cW w_
   rintro ⟨aA,aB,aC,aD,aw,aE,aF,aJ,aL,hI⟩
   obtain rfl:=aw cR
   obtain rfl:=aJ jZ
   have hI:Inv w X [.blk ub (.cells cs.toArray ab),.blk g (.cells cur ab),.blk nb (.cells (bp c (i * 4) cs) ab)] S w_:=by rw [aY] at hI; exact hI
   refine rV hI 2 nb (css.length - i) (bp c (i * 4) cs) ab (css.drop i).flatten av rfl (by omega) (by omega) (fun j u hj=>by rw [f4,hI.cellL (i:=1) rfl]; exact hD j u hj) (by omega) hd1 fun w' hI=>?_
   rw [show (i+1) * 4=i * 4+cs.length by omega] at hI
   exact ⟨aA,aB,aC,aD,aw,aE,aF,aJ,fun _=>rfl,hI⟩
  intro D gK fT fY fE fm fw fF fC fD dk dn cP cO cQ cS bT bS cW w_
  rintro ⟨aA,aB,aC,aD,aw,aE,aF,aJ,aL,hI⟩
  obtain rfl:=aL gK
  obtain rfl:=aJ fT
  obtain rfl:=aF fY
  obtain rfl:=aE fE
  obtain rfl:=aw fm
  obtain rfl:=aD fw
  obtain rfl:=aC fF
  obtain rfl:=aB fC
  obtain rfl:=aA fD
  clear aA aB aC aD aw aE aF aJ aL
  rw [gK] at hI
  exact hfin nb nc _ _ (hI.pick [false,false,true]) hnc hcm2 (by rw [cond_true,fV _ _ _ (by omega),hsz2,hcsz]) (by rw [cond_true,Oa (by omega),hctk,hcapt])
 ·have hgr':css.length+1<=cap:=by omega
  refine bL (by omega) ?_
  rw [show ((css.length:Int)+((1:Nat):Int))=((css.length+1:Nat):Int) by omega]
  refine Jr av (by omega) ?_
  refine bL (by omega) ?_
  rw [show ((i:Int)+((1:Nat):Int))=((i+1:Nat):Int) by omega]
  refine iz av (by omega) (by omega) ?_
  rw [Nat.zero_add]
  refine H9 hI Tryz.func182 (by kernel_rfl) (by kernel_rfl) (by kernel_rfl) (T:=cd) (U:=lB) (by kernel_rfl) av (i:=0) (j:=1) rfl rfl hne (by omega) ?_
  refine cF ?_
  refine a8 (fun _=>?_) (fun hb=>by cases hb)
  have hsz2:(bp cur (i * 4+cs.length) (css.drop i).flatten).size=cur.size:=fV _ _ _ (by omega)
  have hI:Inv w X [.blk ub (.cells cs.toArray ab),.blk g (.cells cur ab)] S w:=hI
  refine ⟨fun D fS fR eR eP eV eT eQ eW eU w_=>(D 0=true->eU=.slice (some ⟨g,0,none⟩) (css.length+1) cap)/\(D 1=true->eW=.int .i64 i)/\(D 2=true->eQ=.int .i64 (1:Nat))/\(D 3=true->eT=.int .i64 (i+1:Nat))/\(D 4=true->eV=.slice (some ⟨g,(i+1) * 4,none⟩) (css.length+1 - (i+1)) (cap - (i+1)))/\(D 5=true->eP=.slice (some ⟨g,0,none⟩) (css.length+1) cap)/\(D 6=true->eR=.int .i64 i)/\(D 7=true->fR=.slice (some ⟨g,i * 4,none⟩) (css.length+1 - i) (cap - i))/\(D 8=true->fS=goInt (css.length - i:Nat))/\Inv w X [.blk ub (.cells cs.toArray ab),.blk g (.cells (cond (D 8) (bp cur (i * 4+cs.length) (css.drop i).flatten) cur) ab)] S w_,⟨ae,ae,ae,ae,ae,ae,ae,ae,ae,hI.draw⟩,⟨?_,?_,?_,?_,?_,?_,?_,?_,?_,trivial⟩,?_⟩
  ·intro D aY  fS fR eR eP eV eT eQ eW eU w_
   rintro ⟨aA,aB,aC,aD,aw,aE,aF,aJ,aL,hI⟩
   exact ⟨fun _=>rfl,aB,aC,aD,aw,aE,aF,aJ,aL,hI⟩
  ·intro D aY  fS fR eR eP eV eT eQ eW eU w_
   rintro ⟨aA,aB,aC,aD,aw,aE,aF,aJ,aL,hI⟩
   exact ⟨aA,fun _=>rfl,aC,aD,aw,aE,aF,aJ,aL,hI⟩
  ·intro D aY  fS fR eR eP eV eT eQ eW eU w_
   rintro ⟨aA,aB,aC,aD,aw,aE,aF,aJ,aL,hI⟩
   exact ⟨aA,aB,fun _=>rfl,aD,aw,aE,aF,aJ,aL,hI⟩
  ·intro D aY dC gA fS fR eR eP eV eT eQ eW eU w_
   rintro ⟨aA,aB,aC,aD,aw,aE,aF,aJ,aL,hI⟩
   obtain rfl:=aB dC
   obtain rfl:=aC gA
   refine bL (by omega) ?_
   exact ⟨aA,aB,aC,fun _=>rfl,aw,aE,aF,aJ,aL,hI⟩
  ·intro D aY cc mO fS fR eR eP eV eT eQ eW eU w_
   rintro ⟨aA,aB,aC,aD,aw,aE,aF,aJ,aL,hI⟩
   obtain rfl:=aA cc
   obtain rfl:=aD mO
   refine iz av (by omega) (by omega) ?_
   rw [Nat.zero_add]
   exact ⟨aA,aB,aC,aD,fun _=>rfl,aE,aF,aJ,aL,hI⟩
  ·intro D aY  fS fR eR eP eV eT eQ eW eU w_
   rintro ⟨aA,aB,aC,aD,aw,aE,aF,aJ,aL,hI⟩
   exact ⟨aA,aB,aC,aD,aw,fun _=>rfl,aF,aJ,aL,hI⟩
  ·intro D aY  fS fR eR eP eV eT eQ eW eU w_
   rintro ⟨aA,aB,aC,aD,aw,aE,aF,aJ,aL,hI⟩
   exact ⟨aA,aB,aC,aD,aw,aE,fun _=>rfl,aJ,aL,hI⟩
  ·intro D aY d3 ge fS fR eR eP eV eT eQ eW eU w_
   rintro ⟨aA,aB,aC,aD,aw,aE,aF,aJ,aL,hI⟩
   obtain rfl:=aE d3
   obtain rfl:=aF ge
   refine iz av (by omega) (by omega) ?_
   rw [Nat.zero_add]
   exact ⟨aA,aB,aC,aD,aw,aE,aF,fun _=>rfl,aL,hI⟩
  ·intro D aY cR jZ fS fR eR eP eV eT eQ eW eU w_
   rintro ⟨aA,aB,aC,aD,aw,aE,aF,aJ,aL,hI⟩
   obtain rfl:=aw cR
   obtain rfl:=aJ jZ
   have hI:Inv w X [.blk ub (.cells cs.toArray ab),.blk g (.cells cur ab)] S w_:=by rw [aY] at hI; exact hI
   refine rV hI 1 g (css.length - i) cur ab (css.drop i).flatten av rfl (by omega) (by omega) (fun j u hj=>by rw [f4,hI.cellL (i:=1) rfl]; exact hD j u hj) (by omega) hd1 fun w' hI=>?_
   rw [show (i+1) * 4=i * 4+cs.length by omega] at hI
   exact ⟨aA,aB,aC,aD,aw,aE,aF,aJ,fun _=>rfl,hI⟩
  intro D gK fT fY fE fm fw fF fC fD fS fR eR eP eV eT eQ eW eU w_
  rintro ⟨aA,aB,aC,aD,aw,aE,aF,aJ,aL,hI⟩
  obtain rfl:=aL gK
  obtain rfl:=aJ fT
  obtain rfl:=aF fY
  obtain rfl:=aE fE
  obtain rfl:=aw fm
  obtain rfl:=aD fw
  obtain rfl:=aC fF
  obtain rfl:=aB fC
  obtain rfl:=aA fD
  clear aA aB aC aD aw aE aF aJ aL
  rw [gK] at hI
  have hI:Inv w X [.blk ub (.cells cs.toArray ab),.blk g (.cells (bp cur (i * 4+cs.length) (css.drop i).flatten) ab)] S w_:=hI
  refine iz av (by omega) (by omega) ?_
  rw [Nat.zero_add]
  refine rV hI 1 g 1 (bp cur (i * 4+cs.length) (css.drop i).flatten) ab cs av rfl (by omega) (by omega) (fun j u hj=>?_) (by omega) hc1 fun w' hI=>?_
  ·rw [f4,hI.cellL (i:=0) rfl,Nat.zero_add]
   simpa using hj
  exact hfin g cap _ _ (hI.pick [false,true]) hgr' (by simp only [maxLen]; omega) (by rw [fV _ _ _ (by omega),hsz2,hcs]) (by rw [NS (by omega),hcapt])
end

end Go.Proofs.YtemmhhdnlbmicaaGreat

/- slices.Delete on a tree of the function's own. -/
namespace Go.Proofs.YtemmhhdnlbmicaaGreat
open Go Go.RowKit
section
variable {P:Program} {w w0:World} {X:List Nat} {L:List Item} {S:az} {K:Value->World->Prop}
attribute [local irreducible] Run CondV aj bd
/- append within the room of a block -/
end
end Go.Proofs.YtemmhhdnlbmicaaGreat

/- slices.Clone and slices.DeleteFunc of terms. -/
namespace Go.Proofs.YtemmhhdnlbmicaaGreat
open Go Go.RowKit

section
variable {P:Program} {w w0:World} {X:List Nat} {L:List Item} {S:az} {K:Value->World->Prop}
attribute [local irreducible] Run CondV aj bd
theorem MI {T e:TypeId} {k n c:Nat} {cx cy:Bool} {a:Option Addr} (hT:dA P T=some (e,k)) (hk:K (.bool a.isNone) w):Run P (aq .eql T cx cy (.slice a n c) (.slice none 0 0)) w K:=by
 obtain ⟨hu,_⟩:=gu hT
 refine Run.of (v:=.bool a.isNone) (w':=w) ?_ hk
 have he:(Op.equal T (.slice a n c) (.slice none 0 0)).run P w=.ok a.isNone w:=by
  rw [Op.equal,Op.maxDepth,Op.equalIn.eq_def]
  cases a <;> simp [run_underlying hu]
 have hg:∀ x y,(eqGuard .eql T x y (.slice a n c) (.slice none 0 0)).run P w=.ok () w:=fun x y=>by unfold eqGuard; simp
 simp only [aq,binOp,Sem.run_bind,hg,Result.andThen_ok,he,Sem.run_pure]
theorem Run.callVPure {f:FuncId} {fn:Func} {cap args:List Value} {r:Value} (hf:P.funcs[f]?=some fn) (hn:(fn.name == "runtime.NumGoroutine" || fn.body.isNone)=false) (h:Inv w0 X L S w) (hc:Pure P f (args++cap) S r)
  (hk:∀ w',Inv w0 X L S w'->K r w'):Run P (aH (fv f cap) args) w K:=by
 refine Run.callV (A:=L) (I:=[]) hf hn (by simpa using h) (Post:=fun v I' S'=>v=r/\I'=[]/\S'=S) ?_ fun v' I' S' w'=>?_
 ·intro w1 hI
  exact (hc w1 hI).mono fun e w' ⟨he,hI⟩=>⟨_,_,_,he,hI,Ext.refl _ _ _,rfl,rfl,rfl⟩
 ·rintro ⟨rfl,rfl,rfl⟩ _ hI
  exact hk _ (by simpa using hI)
end
section
attribute [local irreducible] Run CondV aj bd
theorem uE {xs:List T} {S:az} {v:Value} (h:RdSl S 4 (RdT S) v xs) (hl:xs.length<=4000000000):Tri Tryz.prog A0 [v] [] S fun r I' S'=>S'=S/\∃ css,I'=[bj r ab 4 css]/\Rows 4 (RdT S) css xs:=by
 intro w hI
 obtain ⟨a,cap,rfl,hlc,hcm,hx⟩:=id h
 refine rE ?_
 unfold m9
 refine MI av ?_
 cases a with
 | none=>
  refine a8 (fun _=>?_) (fun hb=>by cases hb)
  rcases hx with rfl|⟨b,o,c,E,fz,hc,_⟩
  ·exact ⟨_,_,_,rfl,hI.rowNil ab 4,Ext.refl _ _ _,rfl,[],rfl,Rows.nil _ _⟩
  ·cases hc
 | some a=>
  refine a8 (fun hb=>by cases hb) (fun _=>?_)
  refine eB hI bD fun v0 w' hI=>?_
  refine jU (css:=[]) hI 0 bD (by omega) rfl h (fun _ _=>RdT.length) (fun _ _=>RdT.one) (by simp; omega) (by omega) fun v1 w' css2 hR hI=>?_
  exact ⟨_,_,_,rfl,hI,Ext.refl _ _ _,rfl,css2,rfl,hR⟩
end

end Go.Proofs.YtemmhhdnlbmicaaGreat

/- impl.compare: the standard order. -/
namespace Go.Proofs.YtemmhhdnlbmicaaGreat
open Go Go.RowKit
def rkI (t:T):Int:=if t.kind=1 then 0 else if t.kind=2 then 1 else if t.kids.length=0 then 2 else 3
theorem LT {t:T} (h:okO t):rkI t=rkS t - 1:=by
 rcases yG h with ⟨hk,_,hks⟩|⟨hk,_⟩
 ·rw [lT hks]
  rcases hk with hk|hk
  ·rw [rkI,if_pos hk]; omega
  ·rw [rkI,if_neg (by omega),if_pos hk]; omega
 ·rw [rkI,if_neg (by omega),if_neg (by omega),rkS]
  by_cases h0:t.kids.length=0
  ·rw [if_pos h0,if_neg (by omega)]; omega
  ·rw [if_neg h0,if_pos ⟨hk,by omega⟩]; rfl
def orL:List Int->Int
 | []=>0
 | x::xs=>gG x (orL xs)
theorem Jf (a b c:Int):gG (gG a b) c=gG a (gG b c):=by
 unfold gG
 by_cases h:a=0
 ·subst h; simp
 ·simp [h]
theorem Nn {t u:T} (ht:okO t) (hu:okO u):orL [cX (rkI t) (rkI u),cX t.n u.n,cX t.kids.length u.kids.length,di t.name u.name,dQ t.kids u.kids]=dU t u:=by
 have e:cX (rkI t) (rkI u)=cX (rkS t) (rkS u):=by
  rw [LT ht,LT hu]
  have h1:=dT (rkS t - 1) (rkS u - 1)
  have h2:=dT (rkS t) (rkS u)
  omega
 rw [e,sm,hdC]
 simp only [orL,EB,Jf]
section
variable {P:Program} {w w0:World} {X:List Nat} {L:List Item} {S:az} {K:Value->World->Prop}
attribute [local irreducible] Run CondV aj bd
theorem Mp (h:Inv w0 X L S w) {a b c d e:Int}
  (hk:∀ b5 w',Inv w0 X (L++[.blk b5 (.cells #[.int .i64 a,.int .i64 b,.int .i64 c,.int .i64 d,.int .i64 e] ff)]) S w'->K (.slice (some ⟨b5,0,none⟩) 5 5) w') :
  Run Tryz.prog (aS q5 5 [(0,.int .i64 a),(1,.int .i64 b),(2,.int .i64 c),(3,.int .i64 d),(4,.int .i64 e)]) w K:=by
 obtain ⟨hu,i,hi,hz,hs,hb,hzs⟩:=il pF
 refine Run.of (v:=.slice (some ⟨w.heap.size,0,none⟩) 5 5) (w':={ w with heap:=w.heap.push (.cells #[.int .i64 a,.int .i64 b,.int .i64 c,.int .i64 d,.int .i64 e] ff) }) ?_ (hk _ _ (h.alloc _))
 have hbase:(Array.range 5).map ((Value.int .i64 0).cells[· % (Value.int .i64 0).cells.size]!)=#[.int .i64 0,.int .i64 0,.int .i64 0,.int .i64 0,.int .i64 0]:=by kernel_rfl
 have hf:Instr.fill (fun i=>some (i,1)) ((Array.range 5).map ((Value.int .i64 0).cells[· % (Value.int .i64 0).cells.size]!)) [(0,.int .i64 a),(1,.int .i64 b),(2,.int .i64 c),(3,.int .i64 d),(4,.int .i64 e)]=some #[.int .i64 a,.int .i64 b,.int .i64 c,.int .i64 d,.int .i64 e]:=by
  rw [hbase]; rfl
 simp [aS,Instr.buildSlice,run_underlying hu,sizeOf,typeInfo,hi,hs,zeroValue,hz,hf,newRow,newObj,Sem.run]
end
section
attribute [local irreducible] Run CondV aj bd
theorem mX (a:Int) (S:az):Pure Tryz.prog Bv [.int .i64 a] S (.bool false):=by
 intro w hI
 refine sC ?_
 unfold o7
 refine gn (done hI ?_)
 simp
theorem j6 (a:ByteArray) (S:az):Pure Tryz.prog uB [.string a] S (.bool false):=by
 intro w hI
 refine ou ?_
 unfold kJ
 refine rC (done hI ?_)
 simp
theorem g9 (a b:Int) (S:az):Pure Tryz.prog yn [.int .i64 a,.int .i64 b] S (.int .i64 (cX a b)):=by
 intro w hI
 refine qd ?_
 unfold mr
 refine Run.callPure pd pg hI (mX a S) fun w' hI=>?_
 refine Run.callPure pd pg hI (mX b S) fun w' hI=>?_
 refine a8 (fun hb=>by cases hb) (fun _=>?_)
 refine a8 (fun hb=>by cases hb) (fun _=>?_)
 refine bR ?_
 refine bk (fun h=>done hI (by rw [cX,if_pos h])) (fun h=>?_)
 refine d6 ?_
 exact bk (fun h'=>done hI (by rw [cX,if_neg h,if_pos h'])) (fun h'=>done hI (by rw [cX,if_neg h,if_neg h']))
theorem nV (a b:ByteArray) (S:az):Pure Tryz.prog rg [.string a,.string b] S (.int .i64 (di a b)):=by
 intro w hI
 refine mR ?_
 unfold jm
 refine Run.callPure kG kQ hI (j6 a S) fun w' hI=>?_
 refine Run.callPure kG kQ hI (j6 b S) fun w' hI=>?_
 refine a8 (fun hb=>by cases hb) (fun _=>?_)
 refine a8 (fun hb=>by cases hb) (fun _=>?_)
 refine Lb ?_
 refine a8 (fun h=>done hI (by rw [di,if_pos h])) (fun h=>?_)
 refine LX ?_
 rw [h,Bool.false_or]
 refine a8 (fun h'=>done hI ?_) (fun h'=>done hI ?_)
 ·rw [Bool.not_eq_true',decide_eq_false_iff_not] at h'
  rcases dV a b with h1|h1|h1
  ·rw [h1.1] at h; cases h
  ·rw [h1.2.2]
  ·exact absurd h1.1 h'
 ·rw [Bool.not_eq_false',decide_eq_true_eq] at h'
  rw [h',ju]
theorem zC {t:T} {S:az} {cs:List Value} (h:RdT S cs t) (_:okO t):Pure Tryz.prog Mj [.agg cs.toArray] S (.int .i64 (rkI t)):=by
 intro w hI
 obtain ⟨kv,rfl,_,_,_,hks⟩:=RdT.iff.1 h
 refine DO ?_
 unfold CU
 refine bM hI fun b1 w' hI=>?_
 refine aI hI 0 rfl bx bn rfl ?_
 refine bO ?_
 refine bk (fun h1=>done hI (by rw [rkI,if_pos (show t.kind=1 from h1)])) (fun h1=>?_)
 refine aI hI 0 rfl bx bn rfl ?_
 refine bO ?_
 refine bk (fun h2=>done hI (by rw [rkI,if_neg (show ¬ t.kind=1 from h1),if_pos (show t.kind=2 from h2)])) (fun h2=>?_)
 refine aI hI 0 rfl aT aP rfl ?_
 refine a9 hks av ?_
 refine bO ?_
 exact bk (fun h3=>done hI (by rw [rkI,if_neg (show ¬ t.kind=1 from h1),if_neg (show ¬ t.kind=2 from h2),if_pos (by omega)])) (fun h3=>done hI (by rw [rkI,if_neg (show ¬ t.kind=1 from h1),if_neg (show ¬ t.kind=2 from h2),if_neg (by omega)]))
theorem LI {l:List Int} {S:az} {v:Value} (h:RdSl S 1 oc v l):Pure Tryz.prog IU [v] S (.int .i64 (orL l)):=by
 intro w hI
 have hlen:=h.le
 simp only [maxLen] at hlen
 refine y0 ?_
 unfold vS
 refine a9 h fl ?_
 refine ⟨fun i w'=>∃ j:Nat,j<=l.length/\i=.int .i64 j/\orL (l.drop j)=orL l/\Inv w [] [] S w',fun i _=>l.length - (intOf i).toNat,⟨0,Nat.zero_le _,rfl,rfl,hI⟩,?_⟩
 intro t8 _ _ _ _ _ _ _ _ _ _ w'
 rintro ⟨j,hj,rfl,hrel,hI⟩
 refine bR ?_
 refine bk (fun hji=>?_) (fun hji=>?_)
 ·have hj':j<l.length:=by omega
  rw [List.drop_eq_getElem_cons hj',orL] at hrel
  refine iF hI h fl bn hj' (fun cs hcs=>hcs) ?_
  refine gn ?_
  refine a8 (fun hb=>done hI ?_) (fun hb=>?_)
  ·have hne:l[j]≠0:=by simpa using hb
   rw [<- hrel,kL hne]
  ·have he:l[j]=0:=by simpa using hb
   rw [he,iH] at hrel
   refine bL (by omega) ?_
   exact ⟨⟨j+1,hj',rfl,hrel,hI⟩,by simp [intOf]; omega⟩
 ·refine done hI ?_
  rw [<- hrel,List.drop_eq_nil_of_le (by omega)]; rfl
theorem ua {ts us:List T} {S:az} {v u:Value} (h:RdSl S 4 (RdT S) v ts) (h':RdSl S 4 (RdT S) u us)
  (hc:∀ t∈ts,∀ u∈us,∀ cs ds,RdT S cs t->RdT S ds u->Pure Tryz.prog gP [.agg cs.toArray,.agg ds.toArray] S (.int .i64 (dU t u))) :
  Pure Tryz.prog nW [v,u,fv gP []] S (.int .i64 (dQ ts us)):=by
 intro w hI
 have hlen:=h.le
 simp only [maxLen] at hlen
 refine lI ?_
 unfold hY
 refine a9 h av ?_
 refine ⟨fun i w'=>∃ j:Nat,j<=ts.length/\j<=us.length/\i=.int .i64 j/\dQ (ts.drop j) (us.drop j)=dQ ts us/\Inv w [] [] S w',fun i _=>ts.length - (intOf i).toNat,⟨0,Nat.zero_le _,Nat.zero_le _,rfl,rfl,hI⟩,?_⟩
 intro t13 _ _ _ _ _ _ _ _ _ _ _ _ _ _ _ _ _ _ _ _ _ _ _ _ _ w'
 rintro ⟨j,hj,hju,rfl,hrel,hI⟩
 refine bR ?_
 refine bk (fun hji=>?_) (fun hji=>?_)
 ·have hj1:j<ts.length:=by omega
  refine dG hI h av ai hj1 (fun _ _=>RdT.length) fun cs hcs=>?_
  have hlc:=hcs.length
  refine bw hI bG fun b8 w' hI=>?_
  refine bf hI 0 rfl ai (by simpa using hlc) rfl (by simpa using hcs.one) fun w' hI=>?_
  refine a9 h' av ?_
  refine nh ?_
  refine bk (fun hb=>done hI ?_) (fun hb=>?_)
  ·rw [<- hrel,List.drop_eq_nil_of_le (show us.length<=j by omega),List.drop_eq_getElem_cons hj1,dQ]
  have hj2:j<us.length:=by omega
  refine dG hI h' av ai hj2 (fun _ _=>RdT.length) fun ds hds=>?_
  have hld:=hds.length
  refine bw hI bG fun b9 w' hI=>?_
  refine bf hI 1 rfl ai (by simpa using hld) rfl (by simpa using hds.one) fun w' hI=>?_
  refine ba hI 0 ai rfl (by simpa using hlc) ?_
  refine ba hI 1 ai rfl (by simpa using hld) ?_
  refine Run.callVPure (cap:=[]) mD mK hI (hc _ (List.getElem_mem hj1) _ (List.getElem_mem hj2) cs ds hcs hds) fun w' hI=>?_
  rw [Cy ts us j hj1 hj2] at hrel
  refine gn ?_
  refine a8 (fun hb=>done hI ?_) (fun hb=>?_)
  ·have hne:dU ts[j] us[j]≠0:=by simpa using hb
   rw [<- hrel,kL hne]
  ·have he:dU ts[j] us[j]=0:=by simpa using hb
   rw [he,iH] at hrel
   refine bL (by omega) ?_
   exact ⟨⟨j+1,hj1,hj2,rfl,hrel,hI.sub (List.nil_sublist _)⟩,by simp [intOf]; omega⟩
 ·refine a9 h av ?_
  refine a9 h' av ?_
  refine bR ?_
  rw [List.drop_eq_nil_of_le (show ts.length<=j by omega)] at hrel
  refine bk (fun hb=>done hI ?_) (fun hb=>done hI ?_)
  ·rw [<- hrel,List.drop_eq_getElem_cons (show j<us.length by omega),dQ]
  ·rw [<- hrel,List.drop_eq_nil_of_le (show us.length<=j by omega),dQ]
theorem qK:∀ (t u:T) (S:az) (cs ds:List Value),RdT S cs t->RdT S ds u->okO t->okO u->Pure Tryz.prog gP [.agg cs.toArray,.agg ds.toArray] S (.int .i64 (dU t u)):=by
 refine T.ind fun k n s ks ih u S cs ds h h' ht hu=>?_
 intro w hI
 have hcs:=h
 have hds:=h'
 have hor:=Nn ht hu
 obtain ⟨kv,rfl,_,_,_,hks⟩:=RdT.iff.1 h
 obtain ⟨kv',rfl,_,_,_,hks'⟩:=RdT.iff.1 h'
 obtain ⟨k',n',s',ks'⟩:=u
 simp only [T.name,T.kids,T.kind,T.n] at hks hks' ⊢
 have htk:uO ks:=by have h:=ht; rw [okO] at h; exact h.2
 have huk:uO ks':=by have h:=hu; rw [okO] at h; exact h.2
 have hkids:=ua hks hks' fun t ht u hu cs ds h1 h2=>ih t ht u S cs ds h1 h2 (od htk t ht) (od huk u hu)
 refine yi ?_
 unfold tw
 refine bM hI fun b1 w' hI=>?_
 refine bM hI fun b2 w' hI=>?_
 have hI:Inv w [] [.blk b1 (.cells #[.int .i64 k,.int .i64 n,.string s,kv] ab),.blk b2 (.cells #[.int .i64 k',.int .i64 n',.string s',kv'] ab)] S w':=hI
 refine ⟨fun D x4 ew eN dZ dP c5 cE cM bW bQ bU cA ce cN cJ b0 dI dw dv ef eA eh ei gd gc x9 x8 x7 x6 x5 w_=>(D 0=true->x5=.agg #[.int .i64 k,.int .i64 n,.string s,kv])/\(D 1=true->x6=.int .i64 (rkI (T.mk k n s ks)))/\(D 2=true->x7=.agg #[.int .i64 k',.int .i64 n',.string s',kv'])/\(D 3=true->x8=.int .i64 (rkI (T.mk k' n' s' ks')))/\(D 4=true->x9=.int .i64 (cX (rkI (T.mk k n s ks)) (rkI (T.mk k' n' s' ks'))))/\(D 5=true->gc=.pointer (some ⟨b1,1,none⟩))/\(D 6=true->gd=.int .i64 n)/\(D 7=true->ei=.pointer (some ⟨b2,1,none⟩))/\(D 8=true->eh=.int .i64 n')/\(D 9=true->eA=.int .i64 (cX n n'))/\(D 10=true->ef=.pointer (some ⟨b1,3,none⟩))/\(D 11=true->dv=kv)/\(D 12=true->dw=.int .i64 ks.length)/\(D 13=true->dI=.pointer (some ⟨b2,3,none⟩))/\(D 14=true->b0=kv')/\(D 15=true->cJ=.int .i64 ks'.length)/\(D 16=true->cN=.int .i64 (cX ks.length ks'.length))/\(D 17=true->ce=.pointer (some ⟨b1,2,none⟩))/\(D 18=true->cA=.string s)/\(D 19=true->bU=.pointer (some ⟨b2,2,none⟩))/\(D 20=true->bQ=.string s')/\(D 21=true->bW=.int .i64 (di s s'))/\(D 22=true->cM=.pointer (some ⟨b1,3,none⟩))/\(D 23=true->cE=kv)/\(D 24=true->c5=.pointer (some ⟨b2,3,none⟩))/\(D 25=true->dP=kv')/\(D 26=true->dZ=.int .i64 (dQ ks ks'))/\(D 27=true->True)/\(D 28=true->ew=.int .i64 (orL [cX (rkI (T.mk k n s ks)) (rkI (T.mk k' n' s' ks')),cX n n',cX ks.length ks'.length,di s s',dQ ks ks']))/\(D 29=true->x4=.int .i64 (orL [cX (rkI (T.mk k n s ks)) (rkI (T.mk k' n' s' ks')),cX n n',cX ks.length ks'.length,di s s',dQ ks ks']))/\∃ SN,Sle S SN/\(D 27=true->RdSl SN 1 oc eN [cX (rkI (T.mk k n s ks)) (rkI (T.mk k' n' s' ks')),cX n n',cX ks.length ks'.length,di s s',dQ ks ks'])/\Inv w [] [.blk b1 (.cells #[.int .i64 k,.int .i64 n,.string s,kv] ab),.blk b2 (.cells #[.int .i64 k',.int .i64 n',.string s',kv'] ab)] SN w_,⟨ae,ae,ae,ae,ae,ae,ae,ae,ae,ae,ae,ae,ae,ae,ae,ae,ae,ae,ae,ae,ae,ae,ae,ae,ae,ae,ae,ae,ae,ae,⟨S,Sle.refl _,ae,hI.draw⟩⟩,⟨?_,?_,?_,?_,?_,?_,?_,?_,?_,?_,?_,?_,?_,?_,?_,?_,?_,?_,?_,?_,?_,?_,?_,?_,?_,?_,?_,?_,?_,?_,trivial⟩,?_⟩
 ·intro D aY  x4 ew eN dZ dP c5 cE cM bW bQ bU cA ce cN cJ b0 dI dw dv ef eA eh ei gd gc x9 x8 x7 x6 x5 w_
  rintro ⟨aA,aB,aC,aD,aw,aE,aF,aJ,aL,aQ,al,ao,aG,aM,aO,aN,aU,aV,aW,aX,a6,a5,a4,aZ,a7,bB,bz,bC,bA,bE,⟨SN,hN,e27,hI⟩⟩
  refine ba hI 0 ai rfl rfl ?_
  exact ⟨fun _=>rfl,aB,aC,aD,aw,aE,aF,aJ,aL,aQ,al,ao,aG,aM,aO,aN,aU,aV,aW,aX,a6,a5,a4,aZ,a7,bB,bz,bC,bA,bE,⟨SN,hN,e27,hI⟩⟩
 ·intro D aY cc x4 ew eN dZ dP c5 cE cM bW bQ bU cA ce cN cJ b0 dI dw dv ef eA eh ei gd gc x9 x8 x7 x6 x5 w_
  rintro ⟨aA,aB,aC,aD,aw,aE,aF,aJ,aL,aQ,al,ao,aG,aM,aO,aN,aU,aV,aW,aX,a6,a5,a4,aZ,a7,bB,bz,bC,bA,bE,⟨SN,hN,e27,hI⟩⟩
  obtain rfl:=aA cc
  refine Run.callPure C3 CX hI (zC (hcs.mono hN) ht) fun w_ hI=>?_
  exact ⟨aA,fun _=>rfl,aC,aD,aw,aE,aF,aJ,aL,aQ,al,ao,aG,aM,aO,aN,aU,aV,aW,aX,a6,a5,a4,aZ,a7,bB,bz,bC,bA,bE,⟨SN,hN,e27,hI⟩⟩
 ·intro D aY  x4 ew eN dZ dP c5 cE cM bW bQ bU cA ce cN cJ b0 dI dw dv ef eA eh ei gd gc x9 x8 x7 x6 x5 w_
  rintro ⟨aA,aB,aC,aD,aw,aE,aF,aJ,aL,aQ,al,ao,aG,aM,aO,aN,aU,aV,aW,aX,a6,a5,a4,aZ,a7,bB,bz,bC,bA,bE,⟨SN,hN,e27,hI⟩⟩
  refine ba hI 1 ai rfl rfl ?_
  exact ⟨aA,aB,fun _=>rfl,aD,aw,aE,aF,aJ,aL,aQ,al,ao,aG,aM,aO,aN,aU,aV,aW,aX,a6,a5,a4,aZ,a7,bB,bz,bC,bA,bE,⟨SN,hN,e27,hI⟩⟩
 ·intro D aY eq ij x4 ew eN dZ dP c5 cE cM bW bQ bU cA ce cN cJ b0 dI dw dv ef eA eh ei gd gc x9 x8 x7 x6 x5 w_
  rintro ⟨aA,aB,aC,aD,aw,aE,aF,aJ,aL,aQ,al,ao,aG,aM,aO,aN,aU,aV,aW,aX,a6,a5,a4,aZ,a7,bB,bz,bC,bA,bE,⟨SN,hN,e27,hI⟩⟩
  obtain rfl:=aC eq
  refine Run.callPure C3 CX hI (zC (hds.mono hN) hu) fun w_ hI=>?_
  exact ⟨aA,aB,aC,fun _=>rfl,aw,aE,aF,aJ,aL,aQ,al,ao,aG,aM,aO,aN,aU,aV,aW,aX,a6,a5,a4,aZ,a7,bB,bz,bC,bA,bE,⟨SN,hN,e27,hI⟩⟩
 ·intro D aY dC mO Mm x4 ew eN dZ dP c5 cE cM bW bQ bU cA ce cN cJ b0 dI dw dv ef eA eh ei gd gc x9 x8 x7 x6 x5 w_
  rintro ⟨aA,aB,aC,aD,aw,aE,aF,aJ,aL,aQ,al,ao,aG,aM,aO,aN,aU,aV,aW,aX,a6,a5,a4,aZ,a7,bB,bz,bC,bA,bE,⟨SN,hN,e27,hI⟩⟩
  obtain rfl:=aB dC
  obtain rfl:=aD mO
  refine Run.callPure io iA hI (g9 _ _ SN) fun w_ hI=>?_
  exact ⟨aA,aB,aC,aD,fun _=>rfl,aE,aF,aJ,aL,aQ,al,ao,aG,aM,aO,aN,aU,aV,aW,aX,a6,a5,a4,aZ,a7,bB,bz,bC,bA,bE,⟨SN,hN,e27,hI⟩⟩
 ·intro D aY  x4 ew eN dZ dP c5 cE cM bW bQ bU cA ce cN cJ b0 dI dw dv ef eA eh ei gd gc x9 x8 x7 x6 x5 w_
  rintro ⟨aA,aB,aC,aD,aw,aE,aF,aJ,aL,aQ,al,ao,aG,aM,aO,aN,aU,aV,aW,aX,a6,a5,a4,aZ,a7,bB,bz,bC,bA,bE,⟨SN,hN,e27,hI⟩⟩
  refine bh bJ ?_
  exact ⟨aA,aB,aC,aD,aw,fun _=>rfl,aF,aJ,aL,aQ,al,ao,aG,aM,aO,aN,aU,aV,aW,aX,a6,a5,a4,aZ,a7,bB,bz,bC,bA,bE,⟨SN,hN,e27,hI⟩⟩
 ·intro D aY d3 x4 ew eN dZ dP c5 cE cM bW bQ bU cA ce cN cJ b0 dI dw dv ef eA eh ei gd gc x9 x8 x7 x6 x5 w_
  rintro ⟨aA,aB,aC,aD,aw,aE,aF,aJ,aL,aQ,al,ao,aG,aM,aO,aN,aU,aV,aW,aX,a6,a5,a4,aZ,a7,bB,bz,bC,bA,bE,⟨SN,hN,e27,hI⟩⟩
  obtain rfl:=aE d3
  refine bH hI 0 bn rfl rfl ?_
  exact ⟨aA,aB,aC,aD,aw,aE,fun _=>rfl,aJ,aL,aQ,al,ao,aG,aM,aO,aN,aU,aV,aW,aX,a6,a5,a4,aZ,a7,bB,bz,bC,bA,bE,⟨SN,hN,e27,hI⟩⟩
 ·intro D aY  x4 ew eN dZ dP c5 cE cM bW bQ bU cA ce cN cJ b0 dI dw dv ef eA eh ei gd gc x9 x8 x7 x6 x5 w_
  rintro ⟨aA,aB,aC,aD,aw,aE,aF,aJ,aL,aQ,al,ao,aG,aM,aO,aN,aU,aV,aW,aX,a6,a5,a4,aZ,a7,bB,bz,bC,bA,bE,⟨SN,hN,e27,hI⟩⟩
  refine bh bJ ?_
  exact ⟨aA,aB,aC,aD,aw,aE,aF,fun _=>rfl,aL,aQ,al,ao,aG,aM,aO,aN,aU,aV,aW,aX,a6,a5,a4,aZ,a7,bB,bz,bC,bA,bE,⟨SN,hN,e27,hI⟩⟩
 ·intro D aY ed x4 ew eN dZ dP c5 cE cM bW bQ bU cA ce cN cJ b0 dI dw dv ef eA eh ei gd gc x9 x8 x7 x6 x5 w_
  rintro ⟨aA,aB,aC,aD,aw,aE,aF,aJ,aL,aQ,al,ao,aG,aM,aO,aN,aU,aV,aW,aX,a6,a5,a4,aZ,a7,bB,bz,bC,bA,bE,⟨SN,hN,e27,hI⟩⟩
  obtain rfl:=aJ ed
  refine bH hI 1 bn rfl rfl ?_
  exact ⟨aA,aB,aC,aD,aw,aE,aF,aJ,fun _=>rfl,aQ,al,ao,aG,aM,aO,aN,aU,aV,aW,aX,a6,a5,a4,aZ,a7,bB,bz,bC,bA,bE,⟨SN,hN,e27,hI⟩⟩
 ·intro D aY c4 gp jg x4 ew eN dZ dP c5 cE cM bW bQ bU cA ce cN cJ b0 dI dw dv ef eA eh ei gd gc x9 x8 x7 x6 x5 w_
  rintro ⟨aA,aB,aC,aD,aw,aE,aF,aJ,aL,aQ,al,ao,aG,aM,aO,aN,aU,aV,aW,aX,a6,a5,a4,aZ,a7,bB,bz,bC,bA,bE,⟨SN,hN,e27,hI⟩⟩
  obtain rfl:=aF c4
  obtain rfl:=aL gp
  refine Run.callPure io iA hI (g9 _ _ SN) fun w_ hI=>?_
  exact ⟨aA,aB,aC,aD,aw,aE,aF,aJ,aL,fun _=>rfl,al,ao,aG,aM,aO,aN,aU,aV,aW,aX,a6,a5,a4,aZ,a7,bB,bz,bC,bA,bE,⟨SN,hN,e27,hI⟩⟩
 ·intro D aY  x4 ew eN dZ dP c5 cE cM bW bQ bU cA ce cN cJ b0 dI dw dv ef eA eh ei gd gc x9 x8 x7 x6 x5 w_
  rintro ⟨aA,aB,aC,aD,aw,aE,aF,aJ,aL,aQ,al,ao,aG,aM,aO,aN,aU,aV,aW,aX,a6,a5,a4,aZ,a7,bB,bz,bC,bA,bE,⟨SN,hN,e27,hI⟩⟩
  refine bh aT ?_
  exact ⟨aA,aB,aC,aD,aw,aE,aF,aJ,aL,aQ,fun _=>rfl,ao,aG,aM,aO,aN,aU,aV,aW,aX,a6,a5,a4,aZ,a7,bB,bz,bC,bA,bE,⟨SN,hN,e27,hI⟩⟩
 ·intro D aY gx x4 ew eN dZ dP c5 cE cM bW bQ bU cA ce cN cJ b0 dI dw dv ef eA eh ei gd gc x9 x8 x7 x6 x5 w_
  rintro ⟨aA,aB,aC,aD,aw,aE,aF,aJ,aL,aQ,al,ao,aG,aM,aO,aN,aU,aV,aW,aX,a6,a5,a4,aZ,a7,bB,bz,bC,bA,bE,⟨SN,hN,e27,hI⟩⟩
  obtain rfl:=al gx
  refine bH hI 0 aP rfl rfl ?_
  exact ⟨aA,aB,aC,aD,aw,aE,aF,aJ,aL,aQ,al,fun _=>rfl,aG,aM,aO,aN,aU,aV,aW,aX,a6,a5,a4,aZ,a7,bB,bz,bC,bA,bE,⟨SN,hN,e27,hI⟩⟩
 ·intro D aY g8 x4 ew eN dZ dP c5 cE cM bW bQ bU cA ce cN cJ b0 dI dw dv ef eA eh ei gd gc x9 x8 x7 x6 x5 w_
  rintro ⟨aA,aB,aC,aD,aw,aE,aF,aJ,aL,aQ,al,ao,aG,aM,aO,aN,aU,aV,aW,aX,a6,a5,a4,aZ,a7,bB,bz,bC,bA,bE,⟨SN,hN,e27,hI⟩⟩
  obtain rfl:=ao g8
  refine a9 hks av ?_
  exact ⟨aA,aB,aC,aD,aw,aE,aF,aJ,aL,aQ,al,ao,fun _=>rfl,aM,aO,aN,aU,aV,aW,aX,a6,a5,a4,aZ,a7,bB,bz,bC,bA,bE,⟨SN,hN,e27,hI⟩⟩
 ·intro D aY  x4 ew eN dZ dP c5 cE cM bW bQ bU cA ce cN cJ b0 dI dw dv ef eA eh ei gd gc x9 x8 x7 x6 x5 w_
  rintro ⟨aA,aB,aC,aD,aw,aE,aF,aJ,aL,aQ,al,ao,aG,aM,aO,aN,aU,aV,aW,aX,a6,a5,a4,aZ,a7,bB,bz,bC,bA,bE,⟨SN,hN,e27,hI⟩⟩
  refine bh aT ?_
  exact ⟨aA,aB,aC,aD,aw,aE,aF,aJ,aL,aQ,al,ao,aG,fun _=>rfl,aO,aN,aU,aV,aW,aX,a6,a5,a4,aZ,a7,bB,bz,bC,bA,bE,⟨SN,hN,e27,hI⟩⟩
 ·intro D aY ib x4 ew eN dZ dP c5 cE cM bW bQ bU cA ce cN cJ b0 dI dw dv ef eA eh ei gd gc x9 x8 x7 x6 x5 w_
  rintro ⟨aA,aB,aC,aD,aw,aE,aF,aJ,aL,aQ,al,ao,aG,aM,aO,aN,aU,aV,aW,aX,a6,a5,a4,aZ,a7,bB,bz,bC,bA,bE,⟨SN,hN,e27,hI⟩⟩
  obtain rfl:=aM ib
  refine bH hI 1 aP rfl rfl ?_
  exact ⟨aA,aB,aC,aD,aw,aE,aF,aJ,aL,aQ,al,ao,aG,aM,fun _=>rfl,aN,aU,aV,aW,aX,a6,a5,a4,aZ,a7,bB,bz,bC,bA,bE,⟨SN,hN,e27,hI⟩⟩
 ·intro D aY GE x4 ew eN dZ dP c5 cE cM bW bQ bU cA ce cN cJ b0 dI dw dv ef eA eh ei gd gc x9 x8 x7 x6 x5 w_
  rintro ⟨aA,aB,aC,aD,aw,aE,aF,aJ,aL,aQ,al,ao,aG,aM,aO,aN,aU,aV,aW,aX,a6,a5,a4,aZ,a7,bB,bz,bC,bA,bE,⟨SN,hN,e27,hI⟩⟩
  obtain rfl:=aO GE
  refine a9 hks' av ?_
  exact ⟨aA,aB,aC,aD,aw,aE,aF,aJ,aL,aQ,al,ao,aG,aM,aO,fun _=>rfl,aU,aV,aW,aX,a6,a5,a4,aZ,a7,bB,bz,bC,bA,bE,⟨SN,hN,e27,hI⟩⟩
 ·intro D aY kK LH K2 x4 ew eN dZ dP c5 cE cM bW bQ bU cA ce cN cJ b0 dI dw dv ef eA eh ei gd gc x9 x8 x7 x6 x5 w_
  rintro ⟨aA,aB,aC,aD,aw,aE,aF,aJ,aL,aQ,al,ao,aG,aM,aO,aN,aU,aV,aW,aX,a6,a5,a4,aZ,a7,bB,bz,bC,bA,bE,⟨SN,hN,e27,hI⟩⟩
  obtain rfl:=aG kK
  obtain rfl:=aN LH
  refine Run.callPure io iA hI (g9 _ _ SN) fun w_ hI=>?_
  exact ⟨aA,aB,aC,aD,aw,aE,aF,aJ,aL,aQ,al,ao,aG,aM,aO,aN,fun _=>rfl,aV,aW,aX,a6,a5,a4,aZ,a7,bB,bz,bC,bA,bE,⟨SN,hN,e27,hI⟩⟩
 ·intro D aY  x4 ew eN dZ dP c5 cE cM bW bQ bU cA ce cN cJ b0 dI dw dv ef eA eh ei gd gc x9 x8 x7 x6 x5 w_
  rintro ⟨aA,aB,aC,aD,aw,aE,aF,aJ,aL,aQ,al,ao,aG,aM,aO,aN,aU,aV,aW,aX,a6,a5,a4,aZ,a7,bB,bz,bC,bA,bE,⟨SN,hN,e27,hI⟩⟩
  refine bh bo ?_
  exact ⟨aA,aB,aC,aD,aw,aE,aF,aJ,aL,aQ,al,ao,aG,aM,aO,aN,aU,fun _=>rfl,aW,aX,a6,a5,a4,aZ,a7,bB,bz,bC,bA,bE,⟨SN,hN,e27,hI⟩⟩
 ·intro D aY F9 x4 ew eN dZ dP c5 cE cM bW bQ bU cA ce cN cJ b0 dI dw dv ef eA eh ei gd gc x9 x8 x7 x6 x5 w_
  rintro ⟨aA,aB,aC,aD,aw,aE,aF,aJ,aL,aQ,al,ao,aG,aM,aO,aN,aU,aV,aW,aX,a6,a5,a4,aZ,a7,bB,bz,bC,bA,bE,⟨SN,hN,e27,hI⟩⟩
  obtain rfl:=aV F9
  refine bH hI 0 bl rfl rfl ?_
  exact ⟨aA,aB,aC,aD,aw,aE,aF,aJ,aL,aQ,al,ao,aG,aM,aO,aN,aU,aV,fun _=>rfl,aX,a6,a5,a4,aZ,a7,bB,bz,bC,bA,bE,⟨SN,hN,e27,hI⟩⟩
 ·intro D aY  x4 ew eN dZ dP c5 cE cM bW bQ bU cA ce cN cJ b0 dI dw dv ef eA eh ei gd gc x9 x8 x7 x6 x5 w_
  rintro ⟨aA,aB,aC,aD,aw,aE,aF,aJ,aL,aQ,al,ao,aG,aM,aO,aN,aU,aV,aW,aX,a6,a5,a4,aZ,a7,bB,bz,bC,bA,bE,⟨SN,hN,e27,hI⟩⟩
  refine bh bo ?_
  exact ⟨aA,aB,aC,aD,aw,aE,aF,aJ,aL,aQ,al,ao,aG,aM,aO,aN,aU,aV,aW,fun _=>rfl,a6,a5,a4,aZ,a7,bB,bz,bC,bA,bE,⟨SN,hN,e27,hI⟩⟩
 ·intro D aY gH x4 ew eN dZ dP c5 cE cM bW bQ bU cA ce cN cJ b0 dI dw dv ef eA eh ei gd gc x9 x8 x7 x6 x5 w_
  rintro ⟨aA,aB,aC,aD,aw,aE,aF,aJ,aL,aQ,al,ao,aG,aM,aO,aN,aU,aV,aW,aX,a6,a5,a4,aZ,a7,bB,bz,bC,bA,bE,⟨SN,hN,e27,hI⟩⟩
  obtain rfl:=aX gH
  refine bH hI 1 bl rfl rfl ?_
  exact ⟨aA,aB,aC,aD,aw,aE,aF,aJ,aL,aQ,al,ao,aG,aM,aO,aN,aU,aV,aW,aX,fun _=>rfl,a5,a4,aZ,a7,bB,bz,bC,bA,bE,⟨SN,hN,e27,hI⟩⟩
 ·intro D aY s3 N8 Nc x4 ew eN dZ dP c5 cE cM bW bQ bU cA ce cN cJ b0 dI dw dv ef eA eh ei gd gc x9 x8 x7 x6 x5 w_
  rintro ⟨aA,aB,aC,aD,aw,aE,aF,aJ,aL,aQ,al,ao,aG,aM,aO,aN,aU,aV,aW,aX,a6,a5,a4,aZ,a7,bB,bz,bC,bA,bE,⟨SN,hN,e27,hI⟩⟩
  obtain rfl:=aW s3
  obtain rfl:=a6 N8
  refine Run.callPure pZ pR hI (nV _ _ SN) fun w_ hI=>?_
  exact ⟨aA,aB,aC,aD,aw,aE,aF,aJ,aL,aQ,al,ao,aG,aM,aO,aN,aU,aV,aW,aX,a6,fun _=>rfl,a4,aZ,a7,bB,bz,bC,bA,bE,⟨SN,hN,e27,hI⟩⟩
 ·intro D aY  x4 ew eN dZ dP c5 cE cM bW bQ bU cA ce cN cJ b0 dI dw dv ef eA eh ei gd gc x9 x8 x7 x6 x5 w_
  rintro ⟨aA,aB,aC,aD,aw,aE,aF,aJ,aL,aQ,al,ao,aG,aM,aO,aN,aU,aV,aW,aX,a6,a5,a4,aZ,a7,bB,bz,bC,bA,bE,⟨SN,hN,e27,hI⟩⟩
  refine bh aT ?_
  exact ⟨aA,aB,aC,aD,aw,aE,aF,aJ,aL,aQ,al,ao,aG,aM,aO,aN,aU,aV,aW,aX,a6,a5,fun _=>rfl,aZ,a7,bB,bz,bC,bA,bE,⟨SN,hN,e27,hI⟩⟩
 ·intro D aY Ln x4 ew eN dZ dP c5 cE cM bW bQ bU cA ce cN cJ b0 dI dw dv ef eA eh ei gd gc x9 x8 x7 x6 x5 w_
  rintro ⟨aA,aB,aC,aD,aw,aE,aF,aJ,aL,aQ,al,ao,aG,aM,aO,aN,aU,aV,aW,aX,a6,a5,a4,aZ,a7,bB,bz,bC,bA,bE,⟨SN,hN,e27,hI⟩⟩
  obtain rfl:=a4 Ln
  refine bH hI 0 aP rfl rfl ?_
  exact ⟨aA,aB,aC,aD,aw,aE,aF,aJ,aL,aQ,al,ao,aG,aM,aO,aN,aU,aV,aW,aX,a6,a5,a4,fun _=>rfl,a7,bB,bz,bC,bA,bE,⟨SN,hN,e27,hI⟩⟩
 ·intro D aY  x4 ew eN dZ dP c5 cE cM bW bQ bU cA ce cN cJ b0 dI dw dv ef eA eh ei gd gc x9 x8 x7 x6 x5 w_
  rintro ⟨aA,aB,aC,aD,aw,aE,aF,aJ,aL,aQ,al,ao,aG,aM,aO,aN,aU,aV,aW,aX,a6,a5,a4,aZ,a7,bB,bz,bC,bA,bE,⟨SN,hN,e27,hI⟩⟩
  refine bh aT ?_
  exact ⟨aA,aB,aC,aD,aw,aE,aF,aJ,aL,aQ,al,ao,aG,aM,aO,aN,aU,aV,aW,aX,a6,a5,a4,aZ,fun _=>rfl,bB,bz,bC,bA,bE,⟨SN,hN,e27,hI⟩⟩
 ·intro D aY MB x4 ew eN dZ dP c5 cE cM bW bQ bU cA ce cN cJ b0 dI dw dv ef eA eh ei gd gc x9 x8 x7 x6 x5 w_
  rintro ⟨aA,aB,aC,aD,aw,aE,aF,aJ,aL,aQ,al,ao,aG,aM,aO,aN,aU,aV,aW,aX,a6,a5,a4,aZ,a7,bB,bz,bC,bA,bE,⟨SN,hN,e27,hI⟩⟩
  obtain rfl:=a7 MB
  refine bH hI 1 aP rfl rfl ?_
  exact ⟨aA,aB,aC,aD,aw,aE,aF,aJ,aL,aQ,al,ao,aG,aM,aO,aN,aU,aV,aW,aX,a6,a5,a4,aZ,a7,fun _=>rfl,bz,bC,bA,bE,⟨SN,hN,e27,hI⟩⟩
 ·intro D aY LR NW PM x4 ew eN dZ dP c5 cE cM bW bQ bU cA ce cN cJ b0 dI dw dv ef eA eh ei gd gc x9 x8 x7 x6 x5 w_
  rintro ⟨aA,aB,aC,aD,aw,aE,aF,aJ,aL,aQ,al,ao,aG,aM,aO,aN,aU,aV,aW,aX,a6,a5,a4,aZ,a7,bB,bz,bC,bA,bE,⟨SN,hN,e27,hI⟩⟩
  obtain rfl:=aZ LR
  obtain rfl:=bB NW
  refine Run.callPure ny nL hI (hkids.less hN) fun w_ hI=>?_
  exact ⟨aA,aB,aC,aD,aw,aE,aF,aJ,aL,aQ,al,ao,aG,aM,aO,aN,aU,aV,aW,aX,a6,a5,a4,aZ,a7,bB,fun _=>rfl,bC,bA,bE,⟨SN,hN,e27,hI⟩⟩
 ·intro D aY cR fj Nc N1 Oq x4 ew eN dZ dP c5 cE cM bW bQ bU cA ce cN cJ b0 dI dw dv ef eA eh ei gd gc x9 x8 x7 x6 x5 w_
  rintro ⟨aA,aB,aC,aD,aw,aE,aF,aJ,aL,aQ,al,ao,aG,aM,aO,aN,aU,aV,aW,aX,a6,a5,a4,aZ,a7,bB,bz,bC,bA,bE,⟨SN,hN,e27,hI⟩⟩
  obtain rfl:=aw cR
  obtain rfl:=aQ fj
  obtain rfl:=aU Nc
  obtain rfl:=a5 N1
  obtain rfl:=bz Oq
  refine Mp hI fun b5 w_ hI=>?_
  obtain ⟨SN,hI,hE,hb⟩:=Inv.pub1 (A:=[.blk b1 (.cells #[.int .i64 k,.int .i64 n,.string s,kv] ab),.blk b2 (.cells #[.int .i64 k',.int .i64 n',.string s',kv'] ab)]) hI
  have hN:=hN.trans hE.1
  have e27:=fun (_:ay D 27 27=true)=>(⟨some ⟨b5,0,none⟩,5,rfl,by simp,by simp [maxLen],.inr ⟨b5,0,_,ff,(0,0),rfl,hb,fun i hi=>by match i,hi with|0,_|1,_|2,_|3,_|4,_=>rfl⟩⟩:RdSl SN 1 oc (.slice (some ⟨b5,0,none⟩) 5 5) [cX (rkI (T.mk k n s ks)) (rkI (T.mk k' n' s' ks')),cX n n',cX ks.length ks'.length,di s s',dQ ks ks'])
  exact ⟨aA,aB,aC,aD,aw,aE,aF,aJ,aL,aQ,al,ao,aG,aM,aO,aN,aU,aV,aW,aX,a6,a5,a4,aZ,a7,bB,bz,fun _=>by first|assumption|trivial,bA,bE,⟨SN,hN,e27,hI⟩⟩
 ·intro D aY Ne Nb x4 ew eN dZ dP c5 cE cM bW bQ bU cA ce cN cJ b0 dI dw dv ef eA eh ei gd gc x9 x8 x7 x6 x5 w_
  rintro ⟨aA,aB,aC,aD,aw,aE,aF,aJ,aL,aQ,al,ao,aG,aM,aO,aN,aU,aV,aW,aX,a6,a5,a4,aZ,a7,bB,bz,bC,bA,bE,⟨SN,hN,e27,hI⟩⟩
  have Pw:=bC Ne
  refine Run.callPure Hj Hu hI (LI (e27 Ne)) fun w_ hI=>?_
  exact ⟨aA,aB,aC,aD,aw,aE,aF,aJ,aL,aQ,al,ao,aG,aM,aO,aN,aU,aV,aW,aX,a6,a5,a4,aZ,a7,bB,bz,bC,fun _=>rfl,bE,⟨SN,hN,e27,hI⟩⟩
 ·intro D aY Lw PO oI sL ui rQ tD x3 xE Bo Dn C9 uD zz AW Ei Eh Nq NM NC OL OR Pl Pa OG OS OP Pc Ps PL PJ x4 ew eN dZ dP c5 cE cM bW bQ bU cA ce cN cJ b0 dI dw dv ef eA eh ei gd gc x9 x8 x7 x6 x5 w_
  rintro ⟨aA,aB,aC,aD,aw,aE,aF,aJ,aL,aQ,al,ao,aG,aM,aO,aN,aU,aV,aW,aX,a6,a5,a4,aZ,a7,bB,bz,bC,bA,bE,⟨SN,hN,e27,hI⟩⟩
  obtain rfl:=bA Lw
  exact ⟨aA,aB,aC,aD,aw,aE,aF,aJ,aL,aQ,al,ao,aG,aM,aO,aN,aU,aV,aW,aX,a6,a5,a4,aZ,a7,bB,bz,bC,bA,fun _=>rfl,⟨SN,hN,e27,hI⟩⟩
 intro D Nk NL Nz Nm NO DU ER E0 DM DV Eo y6 z0 AF nu nF ov je fi fp jt gK fT fY fE fm fw fF fC fD x4 ew eN dZ dP c5 cE cM bW bQ bU cA ce cN cJ b0 dI dw dv ef eA eh ei gd gc x9 x8 x7 x6 x5 w_
 rintro ⟨aA,aB,aC,aD,aw,aE,aF,aJ,aL,aQ,al,ao,aG,aM,aO,aN,aU,aV,aW,aX,a6,a5,a4,aZ,a7,bB,bz,bC,bA,bE,⟨SN,hN,e27,hI⟩⟩
 obtain rfl:=bE Nk
 obtain rfl:=bA NL
 have Pw:=bC Nz
 obtain rfl:=bz Nm
 obtain rfl:=bB NO
 obtain rfl:=a7 DU
 obtain rfl:=aZ ER
 obtain rfl:=a4 E0
 obtain rfl:=a5 DM
 obtain rfl:=a6 DV
 obtain rfl:=aX Eo
 obtain rfl:=aW y6
 obtain rfl:=aV z0
 obtain rfl:=aU AF
 obtain rfl:=aN nu
 obtain rfl:=aO nF
 obtain rfl:=aM ov
 obtain rfl:=aG je
 obtain rfl:=ao fi
 obtain rfl:=al fp
 obtain rfl:=aQ jt
 obtain rfl:=aL gK
 obtain rfl:=aJ fT
 obtain rfl:=aF fY
 obtain rfl:=aE fE
 obtain rfl:=aw fm
 obtain rfl:=aD fw
 obtain rfl:=aC fF
 obtain rfl:=aB fC
 obtain rfl:=aA fD
 clear aA aB aC aD aw aE aF aJ aL aQ al ao aG aM aO aN aU aV aW aX a6 a5 a4 aZ a7 bB bz bC bA bE
 rw [show orL [cX (rkI (T.mk k n s ks)) (rkI (T.mk k' n' s' ks')),cX n n',cX ks.length ks'.length,di s s',dQ ks ks']=dU (T.mk k n s ks) (T.mk k' n' s' ks') from hor]
 exact iR hI hN rfl
end

end Go.Proofs.YtemmhhdnlbmicaaGreat
