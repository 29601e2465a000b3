/- impl.Solve. -/
import Derived.Test.YtgllldjiaglkcaaGreatDoorZMp19
import Derived.Test.YtgllldjiaglkcaaGreatDoorZMp2
import Derived.Test.YtgllldjiaglkcaaGreatDoorZMp15
import Derived.Test.YtgllldjiaglkcaaGreatDoorZMp4
import Derived.Test.YtgllldjiaglkcaaGreatDoorZMp5
import Derived.Test.YtgllldjiaglkcaaGreatDoorZMp16
import Derived.Test.YtgllldjiaglkcaaGreatDoorZMp11
namespace Go.Proofs.YtgllldjiaglkcaaGreatDoor
section
open Go Go.RowKit
mutual
theorem Ym (vs:List Int):∀ t:T,wT (pM vs t)<=wT t
 | .mk k n s ks=>by
  rw [pM]
  split
  ·show (0+0+0:Nat)<=_
   omega
  ·have:=Fd vs ks
   rw [wT,wT,l8 vs ks]
   omega
theorem Fd (vs:List Int):∀ ts:List T,wL (iK vs ts)<=wL ts
 | []=>by rw [iK]; exact aW _
 | t::ts=>by
  have h1:=Ym vs t
  have h2:=Fd vs ts
  rw [iK,wL,wL]
  omega
end
def Ux (vs:List T):Prop:=vs.length+wL vs<=1048576
theorem ValsI.small {N:Nat} {st:al} (hg:Good N st) {vars:List Int} (hv:∀ n∈vars,0<=n/\n<N) (hl:vars.length<=1000) {vs:List T} (h:ValsI st vars (some vs)):Ux vs:=by
 obtain ⟨us,hus,ho⟩:=h
 have hul:=Fc hus
 rw [kR] at hul
 split at ho
 ·rename_i hc
  cases ho
  have hw:=GN (N:=N) (us:=us) fun u hu=>by
   obtain ⟨i,hi,rfl⟩:=zo hu
   refine ⟨dE.1 hc.1 _ hu,jD hg (Fk hus i (by rw [kR]; omega) hi) ?_⟩
   rw [H6]
   exact H8 (hv _ (bz _))
  have:=Fd (cN us []) us
  unfold Ux
  rw [l8]
  omega
 ·cases ho
theorem RunI.small {p:List C} (hp:∀ cl∈p,oP cl) {vars:List Int} (hv:∀ n∈vars,0<=n/\n<26) (hl:vars.length<=1000) {most n:Nat} {s:SI} {out:List (List T)} {r:List (List T) × Int} (h:RunI p vars most n s out r) :
  xR p.length s->26<=s.st.length->(∀ vs∈out,Ux vs)->∀ vs∈r.1,Ux vs:=by
 induction h with
 | fuel=>exact fun _ _ h=>h
 | stop=>exact fun _ _ h=>h
 | more=>exact fun _ _ h=>h
 | large=>exact fun _ _ h=>h
 | step _ hst _ ih=>
  intro hs h26 ho
  obtain ⟨j1,_,_,_,j5⟩:=hst.ok hp hs _ rfl
  exact ih j1 (by omega) ho
 | last _ _ hval _=>
  intro hs h26 ho vs hvs
  rcases bO.1 hvs with h|h
  ·exact ho vs h
  ·rw [cd.1 h]
   exact hval.small hs.good (fun n hn=>⟨(hv n hn).1,by have:=(hv n hn).2; omega⟩) hl
 | next _ _ hval hb _ ih=>
  intro hs h26 ho
  obtain ⟨j1,_,_,j4⟩:=hb.ok hp hs.chs _ rfl
  refine ih j1 (by omega) fun vs hvs=>?_
  rcases bO.1 hvs with h|h
  ·exact ho vs h
  ·rw [cd.1 h]
   exact hval.small hs.good (fun n hn=>⟨(hv n hn).1,by have:=(hv n hn).2; omega⟩) hl
def SolR (p:List C) (q:List T) (most fuel:Nat) (r:List (List T) × Int):Prop:=((de p && eN q)=true/\RunI p (cN q []) most fuel (ey q) [] r) ∨ ((de p && eN q)=false/\r=([],9))
theorem mK {p:List C} (h:de p=true):(∀ cl∈p,oP cl)/\(∀ cl∈p,cl.body.length<=1048576)/\p.length<=20:=by
 rw [de,bu,bk,dE] at h
 exact ⟨fun cl hc=>Oh (h.2 cl hc),fun cl hc=>by have:=(gr (h.2 cl hc)).2.2; omega,h.1⟩
theorem Dj {q:List T} (h:eN q=true):q.length<=6/\(∀ t∈q,dt t=true):=by
 rw [eN,bu,bk,dE] at h
 exact ⟨h.1,fun t ht=>fw (h.2 t ht)⟩
theorem Gv:∀ {q:List T},(∀ t∈q,dt t=true)->cV q<=120 * (q.length:Int)
 | [],_=>by simp [cV]
 | t::q,h=>by
  have h1:=h t (aS ..)
  rw [dt,bu] at h1
  have h2:ew t<=120:=by simpa using h1.2
  have h3:=Gv fun x hx=>h x (aV _ hx)
  rw [cV,bw]
  omega
theorem Fr {q:List T} (h:eN q=true):(∀ n∈cN q [],0<=n/\n<26)/\(cN q []).length<=1000/\cV q<=1000:=by
 obtain ⟨h1,h2⟩:=Dj h
 have h3:=Gv h2
 have h4:=zj q []
 rw [bU] at h4
 exact ⟨Bq q [] (Fa fun t ht=>Na t (io (h2 t ht))) (by simp),by omega,by omega⟩
theorem o5 {q:List T} (h:eN q=true) (m:Nat):xR m (ey q):=Vo m fun t ht=>by
 have hv:=(Dj h).2 t ht
 exact ⟨⟨io hv,by have:=qR hv; omega⟩,AW hv⟩
theorem SolR.ex (p:List C) (q:List T) (most fuel:Nat):∃ r,SolR p q most fuel r:=by
 by_cases h:(de p && eN q)=true
 ·have h':=h
  rw [bu] at h'
  obtain ⟨r,hr⟩:=RunI.ex (mK h'.1).1 (Fr h'.2).1 most _ fuel (ey q) [] (aW _) (be _) (o5 h'.2 _) (by show 26<=(List.replicate 26 (none:Option T)).length; simp)
  exact ⟨r,.inl ⟨h,hr⟩⟩
 ·exact ⟨_,.inr ⟨by simpa using h,rfl⟩⟩
end
section
open Go Go.RowKit
attribute [local irreducible] Run CondV az aO

def R7 (c:C):Bool:=match c.body with
 | []=>false
 | g::_=>cD g
theorem VL {c:C} (h:R7 c=true):∃ g gs,c.body=g::gs/\cD g=true:=by
 unfold R7 at h
 split at h
 ·cases h
 ·exact ⟨_,_,‹_›,h⟩
end
section
open Go Go.RowKit
def Xv (c d:C):Bool:=bK c && (bK d && R7 c)
theorem Um {c d:C} (h:Xv c d=true):bK c=true/\bK d=true/\c.body≠[]:=by
 rw [Xv,bu,bu] at h
 obtain ⟨g,gs,e,_⟩:=VL h.2.2
 exact ⟨h.1,h.2.1,by rw [e]; simp⟩
def RB (c d r:C) (b:Bool):Prop:=(Xv c d=false/\r=TU/\b=false) ∨ (Xv c d=true/\∃ o,RO c d o/\((aah o=true/\r=clO o/\b=true) ∨ (aah o=false/\r=TU/\b=false)))
theorem RB.ex {c d:C} (hw:wC c<=1048576) (hw2:wC d<=1048576):∃ r b,RB c d r b:=by
 cases hg:Xv c d with
 | false=>exact ⟨_,_,.inl ⟨hg,rfl,rfl⟩⟩
 | true=>
  obtain ⟨h1,h2,h3⟩:=Um hg
  obtain ⟨o,ho⟩:=RO.ex h1 h2 hw hw2 h3
  cases hk:aah o with
  | false=>exact ⟨_,_,.inr ⟨hg,o,ho,.inr ⟨hk,rfl,rfl⟩⟩⟩
  | true=>exact ⟨_,_,.inr ⟨hg,o,ho,.inl ⟨hk,rfl,rfl⟩⟩⟩
theorem zc:wC TU<=20000:=by decide +kernel
theorem aa1 {c d:C} (h1:bK c=true) (h2:bK d=true) (hw:wC c<=1048576) (hw2:wC d<=1048576) (h3:c.body≠[]) {o:Option (Option C)} (ho:RO c d o):wC (clO o)<=20000:=by
 obtain ⟨r,st,hu,hcase⟩:=ho
 rcases hcase with ⟨_,rfl⟩|⟨_,us,hus,⟨_,rfl⟩|⟨hs,rfl⟩⟩
 ·exact zc
 ·exact zc
 ·have hg:=(hu.good HG (JQ h1 h2 hw hw2 h3)).1
  obtain ⟨e1,e2⟩:=jD hg hus (OG h1 h2)
  have hl:=Vt h1 h2
  have hs2:=N7 hs e1
  show wC (Y8 (Zq (ofL us)) (ofL us))<=20000
  rw [ZW]
  match us,hs2,e2 with
  | [],_,_=>exact zc
  | u::us,hs2,e2=>
   rw [wL] at hs2
   rw [bw] at hs2 e2
   simp only [wC,ofL]
   omega
theorem RB.w {c d r:C} {b:Bool} (h:RB c d r b) (hw:wC c<=1048576) (hw2:wC d<=1048576):wC r<=20000:=by
 rcases h with ⟨_,rfl,_⟩|⟨hg,o,ho,⟨_,rfl,_⟩|⟨_,rfl,_⟩⟩
 ·exact zc
 ·obtain ⟨h1,h2,h3⟩:=Um hg
  exact aa1 h1 h2 hw hw2 h3 ho
 ·exact zc
section
attribute [local irreducible] Run CondV az aO
end
end
section
open Go Go.RowKit
theorem PS {st:al} {t v:T} (h:dF st t v):∀ v',dF st t v'->v'=v:=by
 induction h with
 | stop hl=>
  intro v' h'
  cases h' with
  | stop _=>rfl
  | step hl' _=>rw [hl] at hl'; cases hl'
 | step hl _ ih=>
  intro v' h'
  cases h' with
  | stop hl'=>rw [hl] at hl'; cases hl'
  | step hl' h2=>rw [hl] at hl'; cases hl'; exact ih _ h2
theorem Yz {st:al} {j:Vm} (h:Res st j):match j with
  | .one t u=>∀ u',Res st (.one t u')->u'=u
  | .list ts us=>∀ us',Res st (.list ts us')->us'=us:=by
 induction h with
 | one hw _ ih=>
  intro u' h'
  cases h' with
  | one hw' hl'=>
   obtain rfl:=PS hw _ hw'
   rw [ih _ hl']
 | nil=>
  intro us' h'
  cases h'
  rfl
 | cons _ _ ih1 ih2=>
  intro us' h'
  cases h' with
  | cons h1 h2=>rw [ih1 _ h1,ih2 _ h2]
open Classical in
noncomputable def sgR (st:al) (n:Int):T:=if h:∃ u,Res st (.one (idS n) u) then h.choose else idS n
theorem ZQ {st:al} {n:Int} {u:T} (h:Res st (.one (idS n) u)):sgR st n=u:=by
 have he:∃ u,Res st (.one (idS n) u):=⟨u,h⟩
 rw [sgR,dif_pos he]
 exact Yz h _ he.choose_spec
theorem aam {N:Nat} {st:al} {j:Vm} (hr:Res st j):match j with
  | .one t u=>okU N t->u=sbT (sgR st) t
  | .list ts us=>dw N ts->us=sbL (sgR st) ts:=by
 induction hr with
 | one hw hl ih=>
  rename_i t v us
  intro ho
  by_cases hk:t.kind=1
  ·obtain ⟨_,_,h3,h4⟩:=ho.var hk
   obtain ⟨k,n,s,ks⟩:=t
   simp only [T.kind,T.name,T.kids] at hk h3 h4
   subst hk; subst h3; subst h4
   rw [sbT,ai rfl]
   exact (ZQ (.one hw hl)).symm
  ·have hv:v=t:=PS (.stop (Bb.2 fun e=>absurd e hk)) _ hw
   subst hv
   have h2:=ih ho.kids
   obtain ⟨k,n,s,ks⟩:=v
   simp only [T.kind] at hk
   rw [sbT,ah hk]
   simp only [T.kids] at h2
   rw [h2]
   rfl
 | nil=>exact fun _=>rfl
 | cons _ _ ih1 ih2=>
  intro ho
  rw [dw] at ho
  rw [sbL,ih1 ho.1,ih2 ho.2]
end
section
open Go Go.RowKit
structure NdOk (g:T) (m N:Nat) (ns:List NI):Prop where
 ok:∀ x∈ns,(okU N x.goal/\wT x.goal<=1048576)/\-1<=x.clause/\x.clause<=m
 hd:∀ x,ns[0]?=some x->x.goal=g
theorem NdOk.mono {g:T} {m N M:Nat} {ns:List NI} (h:NdOk g m N ns) (hN:N<=M):NdOk g m M ns:=⟨fun x hx=>⟨⟨iC hN _ (h.ok x hx).1.1,(h.ok x hx).1.2⟩,(h.ok x hx).2⟩,h.hd⟩
theorem NdOk.take {g:T} {m N:Nat} {ns:List NI} (h:NdOk g m N ns) (k:Nat):NdOk g m N (ns.take k):=by
 refine ⟨fun x hx=>h.ok x (sD hx),fun x hx=>h.hd x ?_⟩
 rw [r4] at hx
 split at hx
 ·exact hx
 ·cases hx
theorem NdOk.setN {g:T} {m N:Nat} {ns:List NI} (h:NdOk g m N ns) (a:Nat) {i:Int} (hi:-1<=i/\i<=m):NdOk g m N (setN ns a i):=by
 unfold Go.Proofs.YtgllldjiaglkcaaGreatDoor.setN
 refine ⟨fun x hx=>?_,fun x hx=>?_⟩
 ·obtain ⟨k,hk,rfl⟩:=zo hx
  rw [List.length_modify] at hk
  have h1:=h.ok _ (bz hk)
  rw [List.getElem_modify]
  split
  ·exact ⟨h1.1,hi⟩
  ·exact h1
 ·rw [List.getElem?_modify] at hx
  cases hy:ns[0]? with
  | none=>rw [hy] at hx; cases hx
  | some y=>
   rw [hy] at hx
   simp only [Option.map_eq_map,sw,bg] at hx
   have:=h.hd y hy
   rw [<- hx]
   split <;> exact this
theorem NdOk.snoc {g:T} {m N:Nat} {ns:List NI} (h:NdOk g m N ns) {t:T} {u:Int} (ht:okU N t/\wT t<=1048576) (h0:ns=[]->t=g):NdOk g m N (ns++[⟨t,u,-1⟩]):=by
 refine ⟨fun x hx=>?_,fun x hx=>?_⟩
 ·rcases bO.1 hx with hx|hx
  ·exact h.ok x hx
  ·rw [cd.1 hx]
   exact ⟨ht,Af _,by show (-1:Int)<=m; omega⟩
 ·cases ns with
  | nil=>
   simp only [rg,F2,bg] at hx
   rw [<- hx]
   exact h0 rfl
  | cons y ns=>exact h.hd x (by simpa using hx)
theorem BackI.nd {p:List C} (hp:∀ cl∈p,oP cl) {g:T} {cs:List CI} {n:Nat} {ns:List NI} {o:Option SI} (h:BackI p cs n ns o):okCs p.length n ns.length cs->NdOk g p.length n ns->∀ s,o=some s->NdOk g p.length s.st.length s.nodes/\1<=s.nodes.length:=by
 induction h with
 | nil=>intro _ _ s h; cases h
 | @hit cs c n m ns r ht=>
  intro hcs hn s h
  cases h
  obtain ⟨h1,h2,h3,h4⟩:=hcs.last
  obtain ⟨g1,g2,g3,g4⟩:=h2.grow h3
  obtain ⟨k1,_,k3⟩:=ht.ok hp g1 g2 g3
  obtain ⟨_,a2,_,a4,a5,_⟩:=k3 r rfl
  rw [dU h3] at k1
  have hlt:=(gx.1 a2).1
  refine ⟨((hn.mono (M:=r.st.length) (by omega)).take c.taken).setN _ ⟨by omega,by omega⟩,?_⟩
  show 1<=(setN (ns.take c.taken) c.node.toNat r.i).length
  have:=h2.node
  rw [pd,dX]
  omega
 | @miss cs c n m ns o ht _ ih=>
  intro hcs hn
  obtain ⟨h1,h2,h3,h4⟩:=hcs.last
  obtain ⟨g1,g2,g3,g4⟩:=h2.grow h3
  obtain ⟨k1,_,_⟩:=ht.ok hp g1 g2 g3
  rw [dU h3] at k1
  have hlt:(ns.take c.taken).length=c.taken:=by rw [dX]; omega
  exact ih (by rw [hlt]; exact h1.mono k1 (aW _)) ((hn.mono k1).take _)
theorem StepI.nd {p:List C} (hp:∀ cl∈p,oP cl) {g:T} {nc:Bool} {s:SI} {o:Option SI} {e:Int} (h:StepI p nc s o e) (hs:xR p.length s) (hn:NdOk g p.length s.st.length s.nodes) (h0:s.nodes=[]->∀ x gs t,s.goals=x::gs->Res s.st (.one x.t t)->t=g) :
  ∀ s',o=some s'->NdOk g p.length s'.st.length s'.nodes/\1<=s'.nodes.length:=by
 have first:∀ {x:GI} {gs:List GI} {t:T},s.goals=x::gs->Res s.st (.one x.t t)->bI t=true->((okU s.st.length t/\wT t<=1048576)/\okM t)/\NdOk g p.length s.st.length (s.nodes++[⟨t,x.up,-1⟩]):=by
  intro x gs t hg ht hsm
  have hg1:=hs.goals x (by rw [hg]; simp)
  obtain ⟨hut,hmt⟩:=u7 hs.good hg1.1.1 hs.tab ht
  have hw:=gj hsm hut
  exact ⟨⟨⟨hut,by omega⟩,hmt⟩,hn.snoc ⟨hut,by omega⟩ fun e=>h0 e x gs t hg ht⟩
 cases h with
 | large=>intro s' h; cases h
 | noCut=>intro s' h; cases h
 | err=>intro s' h; cases h
 | unknown=>intro s' h; cases h
 | cut hg ht hsm=>intro s' h; cases h; exact ⟨(first hg ht hsm).2,by simp⟩
 | solved hg ht hsm _ hb hB=>
  intro s' h
  cases h
  obtain ⟨h1,h2⟩:=first hg ht hsm
  have hl:=(hB.good hs.good hb h1.1).len
  exact ⟨h2.mono (M8 hl.symm),by simp⟩
 | fail hg ht hsm _ hb hB ho=>
  obtain ⟨h1,h2⟩:=first hg ht hsm
  exact ho.nd hp (gB hs.chs _) h2
 | @took x gs t r m hg ht hsm _ _ _ hT=>
  intro s' h
  cases h
  obtain ⟨h1,h2⟩:=first hg ht hsm
  obtain ⟨k1,_,k3⟩:=hT.ok hp hs.good hs.tab h1
  obtain ⟨_,a2,_,a4,a5,_⟩:=k3 r rfl
  have hlt:=(gx.1 a2).1
  refine ⟨(h2.mono (M:=r.st.length) (by omega)).setN _ ⟨by omega,by omega⟩,?_⟩
  show 1<=(setN (s.nodes++[(⟨t,x.up,-1⟩:NI)]) _ r.i).length
  rw [pd]
  simp
 | back hg ht hsm _ _ _ hT ho=>
  obtain ⟨h1,h2⟩:=first hg ht hsm
  have hm:=(hT.ok hp hs.good hs.tab h1).1
  exact ho.nd hp ((gB hs.chs _).mono hm (aW _)) (h2.mono hm)
inductive FindI (p:List C):Nat->SI->Option SI->Prop
 | done {n:Nat} {s:SI}:s.goals=[]->FindI p n s (some s)
 | fuel {s:SI}:s.goals≠[]->FindI p 0 s none
 | stop {n:Nat} {s:SI} {e:Int}:s.goals≠[]->StepI p true s none e->FindI p (n+1) s none
 | step {n:Nat} {s s':SI} {e:Int} {o:Option SI}:s.goals≠[]->StepI p true s (some s') e->FindI p n s' o->FindI p (n+1) s o
theorem FindI.ex {p:List C} (hp:∀ cl∈p,oP cl):∀ (n:Nat) (s:SI),xR p.length s->∃ o,FindI p n s o
 | 0,s,hs=>by
  by_cases hg:s.goals=[]
  ·exact ⟨_,.done hg⟩
  ·exact ⟨_,.fuel hg⟩
 | n+1,s,hs=>by
  by_cases hg:s.goals=[]
  ·exact ⟨_,.done hg⟩
  obtain ⟨o,e,hst⟩:=StepI.ex hp true hs hg
  cases o with
  | none=>exact ⟨_,.stop hg hst⟩
  | some s'=>
   obtain ⟨o,ho⟩:=FindI.ex hp n s' (hst.ok hp hs s' rfl).1
   exact ⟨o,.step hg hst ho⟩
theorem FindI.invG {p:List C} {n:Nat} {s:SI} {o:Option SI} (h:FindI p n s o) (hg:s.goals≠[]):(n=0/\o=none) ∨ ∃ m o' e,n=m+1/\StepI p true s o' e/\((o'=none/\o=none) ∨ ∃ s',o'=some s'/\FindI p m s' o):=by
 cases h with
 | done h=>exact absurd h hg
 | fuel=>exact .inl ⟨rfl,rfl⟩
 | stop _ h=>exact .inr ⟨_,_,_,rfl,h,.inl ⟨rfl,rfl⟩⟩
 | step _ h1 h2=>exact .inr ⟨_,_,_,rfl,h1,.inr ⟨_,rfl,h2⟩⟩
theorem FindI.invN {p:List C} {n:Nat} {s:SI} {o:Option SI} (h:FindI p n s o) (hg:s.goals=[]):o=some s:=by
 cases h with
 | done _=>rfl
 | fuel h=>exact absurd hg h
 | stop h=>exact absurd hg h
 | step h=>exact absurd hg h
theorem G2 {N:Nat} {st:al} {g u:T} (ho:okU N g) (hg:∀ σ,sbT σ g=g) (hr:Res st (.one g u)):u=g:=(aam hr ho).trans (hg _)
mutual
theorem Di {ws:List Int}:∀ t:T,vT t=[]->pM ws t=t
 | .mk k n s ks,h=>by
  rw [vT] at h
  rw [pM]
  by_cases hk:k=1
  ·rw [ai hk] at h; cases h
  ·rw [ah hk] at h
   rw [ah hk,ya ks h]
theorem ya {ws:List Int}:∀ ts:List T,vTL ts=[]->iK ws ts=ts
 | [],_=>rfl
 | t::ts,h=>by
  rw [vTL,List.append_eq_nil_iff] at h
  rw [iK,Di t h.1,ya ts h.2]
end
end
section
open Go Go.RowKit
section
variable {w:World} {K:Value->World->Prop}
attribute [local irreducible] Run
theorem Rn {sb:Nat} {p1 p2:Option Addr} {n1 n2 m1 m2:Nat} {fuel:Int} {b:Bool}
  (hk:K (.agg #[.pointer (some ⟨sb,0,none⟩),.slice p1 n1 m1,.slice p2 n2 m2,.bool b,.bool false,.int .i64 fuel,.int .i64 0,.int .i64 26,.pointer none,.slice none 0 0,.slice none 0 0,.int .i64 0]) w) :
  Run Tryz.prog (cB pB [(0,.pointer (some ⟨sb,0,none⟩)),(1,.slice p1 n1 m1),(2,.slice p2 n2 m2),(5,.int .i64 fuel),(3,.bool b),(7,.int .i64 26)]) w K:=by
 refine Run.of (v:=.agg #[.pointer (some ⟨sb,0,none⟩),.slice p1 n1 m1,.slice p2 n2 m2,.bool b,.bool false,.int .i64 fuel,.int .i64 0,.int .i64 26,.pointer none,.slice none 0 0,.slice none 0 0,.int .i64 0]) (w':=w) ?_ hk
 unfold cB
 rw [Sem.run_bind,run_build w pB _ #[.pointer (some ⟨sb,0,none⟩),.slice p1 n1 m1,.slice p2 n2 m2,.bool b,.bool false,.int .i64 fuel,.int .i64 0,.int .i64 26,.pointer none,.slice none 0 0,.slice none 0 0,.int .i64 0] (by kernel_rfl),Result.andThen_ok]
 rfl
end
section
attribute [local irreducible] Run CondV az aO
theorem Inv.rowLeM {w0 w:World} {X:List Nat} {L:List Item} {S:ae} (h:Inv w0 X L S w) {i k n:Nat} {e:TypeId} {v:Value} {xs:List Value} (hi:L[i]?=some (.row v e k n xs)):n<=maxLen:=by
 have hm:w.ownsRow 0 e k v n xs:=h.its (.row v e k n xs) (cz hi)
 rcases hm.2 with ⟨rfl,hn⟩|⟨g,cap,cur,rfl,_,_,hn,hc,_⟩
 ·rw [hn]; exact be _
 ·exact gX hn hc
theorem rY {p:List C} {q:List T} {S:ae} {pv qv:Value} (h4:RdSl S 5 (RdC S) pv p) (hq:RdSl S 4 (RdT S) qv q) (fuel:Int) :
  Tri Tryz.prog IB [pv,qv,.int .i64 fuel,.bool false] [] S fun x I' S'=>∃ sp sb mb gv,x=.pointer (some ⟨sp,0,none⟩)/\GL S' gv (ey q).goals/\
   I'=qD sp sb mb pv qv false fuel 0 26 gv (.slice none 0 0) [] (.slice none 0 0) [] 0 #[] 0 (.slice none 0 0) []:=by
 intro w hI
 obtain ⟨pa,pcap,rfl,-⟩:=id h4
 obtain ⟨qa,qcap,rfl,-⟩:=id hq
 refine tP.2 ?_
 dsimp only[tP,lC]
 refine Run.call0 wq wl hI (uz S) fun v' I' S' w'=>?_
 rintro ⟨rfl,sb,mb,rfl,rfl⟩ _ hI
 refine Rn ?_
 refine bq hI fun sp w' hI=>?_
 refine Run.call0E PV PW hI (KF (cut:=0) (up:=-1) hq GL.nil) fun v' I' S1 w'=>?_
 rintro ⟨rfl,hG⟩ hE1 hI
 have hI:=hI.sub (dB _ _)
 obtain ⟨gp,rfl⟩:=hG.ptr
 refine aB ?_
 refine du hI 3 rfl gq dC rfl rfl rfl fun w' hI=>?_
 have hI:=(hI.rowNil ez 9).rowNil iY 6
 have hI:Inv w [] (aA sb mb #[] 0 (.slice none 0 0) []++[fx sp (dK sb (.slice pa p.length pcap) (.slice qa q.length qcap) false fuel 0 26 (.pointer gp) (.slice none 0 0) (.slice none 0 0) 0),chI (.slice none 0 0) [],noI (.slice none 0 0) []]) S1 w':=hI
 refine ⟨_,_,S1,rfl,hI.perm (cu (l₂:=aA sb mb #[] 0 (.slice none 0 0) [])),hE1,sp,sb,mb,.pointer gp,rfl,?_,rfl⟩
 rw [dh] at hG
 exact hG
theorem GZ {p:List C} {q:List T} {S:ae} {pv qv:Value} (h4:RdSl S 5 (RdC S) pv p) (hq:RdSl S 4 (RdT S) qv q) {most fuel:Nat} (hm:most<=20) (hf:fuel<=300) :
  Pure Tryz.prog LQ [pv,qv,.int .i64 (most:Int),.int .i64 (fuel:Int)] S (.bool (de p && eN q)):=by
 intro w hI
 refine wc.2 ?_
 dsimp only[wc,lC]
 refine Run.callPure gK gM hI (fP h4) fun w' hI=>?_
 have e1:(decide ((0:Int)<=(most:Int)) && decide ((most:Int)<=20))=true:=by simp; omega
 have e2:(decide ((0:Int)<=(fuel:Int)) && decide ((fuel:Int)<=300))=true:=by simp; omega
 cases hp:de p
 ·refine rpG ?_
  exact done hI rfl
 ·refine rpG ?_
  refine Run.callPure EP ED hI (yo hq) fun w' hI=>?_
  cases hqv:eN q
  ·refine rpG ?_
   exact done hI rfl
  ·refine rpG ?_
   refine Run.callPure fu fD hI (eR _ _ _ S) fun w' hI=>?_
   rw [e1]
   refine rpG ?_
   refine Run.callPure fu fD hI (eR _ _ _ S) fun w' hI=>?_
   rw [e2]
   refine rpG ?_
   exact done hI rfl
set_option maxHeartbeats 2000000 in
theorem Oe {p:List C} {q:List T} {S:ae} {pv qv:Value} (h4:RdSl S 5 (RdC S) pv p) (hq:RdSl S 4 (RdT S) qv q) {most fuel:Nat} (hm:most<=20) (hf:fuel<=300) {r:List (List T) × Int} (hr:SolR p q most fuel r) :
  Tri Tryz.prog UL [pv,qv,.int .i64 (most:Int),.int .i64 (fuel:Int),.bool false] [] S fun x I' S'=>I'=[]/\∃ v,x=.tuple #[v,.int .i64 r.2]/\RdSl S' 1 (RdAns S') v r.1:=by
 intro w hI
 refine Ia.2 ?_
 dsimp only[Ia,ry]
 refine Run.callPure Jv Ja hI (GZ h4 hq hm hf) fun w' hI=>?_
 refine bQ ?_
 rcases hr with ⟨hb,hr⟩|⟨hb,rfl⟩
 ·rw [hb]
  refine aw (fun h=>by cases h) (fun _=>?_)
  have hb':=hb
  rw [bu] at hb'
  obtain ⟨f1,f2,f3⟩:=mK hb'.1
  obtain ⟨g1,g2,g3⟩:=Fr hb'.2
  refine Run.call0E tU tj hI (rY h4 hq fuel) fun v' I' S1 w'=>?_
  rintro ⟨sp,sb,mb,gv,rfl,hG,rfl⟩ hE1 hI
  have hso:=o5 hb'.2 p.length
  have hsl:(ey q).st.length=26:=by show (List.replicate 26 (none:Option T)).length=26; simp
  have hK:SeaK S1 (ey q).chs (ey q).nodes (ey q).st [] [] #[] [] []:=by
   refine ⟨KnownM.none S1 26,Rows.nil _ _,Rows.nil _ _,.nil,?_⟩
   show ([]:List Int).length+unb (List.replicate 26 none)<=(List.replicate 26 (none:Option T)).length
   rw [uM]
   simp
  have hmul:26 * p.length * (fuel+1)<=520 * 301:=Ca (by omega) (by omega)
  have hRK:Xi p fuel (ey q):=by
   refine ⟨hso,by omega,?_,?_,?_⟩
   ·rw [hsl]
    show 26+26 * 0+_<=_
    omega
   ·show 0+fuel<=_
    omega
   ·show 0+fuel<=_
    omega
  refine Run.callE (A:=[]) EG Ei hI (by
   have:=VE f1 f2 (by omega) (by omega) hr hRK g1 g2 (by omega) (fuel:=fuel) (used:=0) (Af _) (by omega) (by omega) (h4.monoC hE1.1) (hq.monoT hE1.1) hG hK (sp:=sp) (sb:=sb) (mb:=mb) (ck:=0) (mo:=0) (cv:=.slice none 0 0) (nv:=.slice none 0 0) (tv:=.slice none 0 0)
   rw [hsl] at this
   exact this) fun v' I' S2 w'=>?_
  rintro ⟨v,css,rfl,rfl,hR⟩ hE2 hI
  have hsm:=hr.small f1 g1 g2 hso (by omega) (by simp)
  refine ar rfl ?_
  refine ar rfl ?_
  refine kB hI 0 rfl oi ?_
  have hcl:=hR.hc
  have hE12:=hE1.trans hE2
  have hI:Inv w [] [aJ v fp 1 css] S2 w':=hI
  refine ⟨fun i w'=>∃ (k:Nat) (css':List (List Value)) (S3:ae),k<=css.length/\i=.int .i64 (k:Int)/\css'.length=css.length/\Ext w.heap.size [] S2 S3/\Rows 1 (RdAns S3) css' r.1/\Inv w [] [.row v fp 1 css.length css'.flatten] S3 w',
   fun i _=>css.length - (intOf i).toNat,⟨0,css,S2,be _,rfl,rfl,Ext.refl _ _ _,hR,hI⟩,?_⟩
  clear hI
  intro ii _ _ _ _ _ _ _ _ _ _ _ _ _ _ w'
  rintro ⟨k,css',S3,hk,rfl,hll,hE3,hR3,hI⟩
  refine bH ?_
  refine aL (fun hki=>?_) (fun hki=>?_)
  ·have hk':k<css'.length:=by omega
   have hkr:k<r.1.length:=by omega
   have hle:=hI.rowLeM (i:=0) rfl
   simp only [maxLen] at hle
   rw [<- hll] at hI
   obtain ⟨u,hu,hus⟩:=hR3.hR k hkr hk'
   obtain ⟨g,cap,hv,hcell⟩:=hI.rowPtr (i:=0) rfl hk' hR3.hk
   subst hv
   obtain ⟨ua,ucap,rfl,-⟩:=id hus
   have hans:=hsm _ (bz hkr)
   refine aE oi hk' ?_
   refine bL (cs:=[.slice ua r.1[k].length ucap]) Hn rfl (fun j x hj=>by
    rw [cq]
    exact hcell j x (by rw [hu]; exact hj)) ?_
   refine aT hI Rq fun b15 w' hI=>?_
   refine aC hI 1 rfl Hn rfl rfl (by simp [Value.oneCell']) fun w' hI=>?_
   refine af hI 1 rfl yN aj rfl ?_
   have hI:Inv w [] [aJ (.slice (some ⟨g,0,none⟩) css'.length cap) fp 1 css'] S3 _:=hI.sub (dB [_] [_])
   refine Run.call0E qF qT hI (wb hus hans) fun v' I' S5 w'=>?_
   rintro ⟨rfl,M,rfl,hT⟩ hE5 hI5
   obtain ⟨S9,hI9,hE9,hins⟩:=Inv.pubExt hI5
   have hn:=hT.rd hins fun _ _ _ hi h=>h.rd hi
   obtain ⟨na,ncap,rfl,-⟩:=id hn
   refine aE oi hk' ?_
   refine au yN ?_
   refine H5 hI9 0 (j:=k) (f:=0) rfl aj hk' (by omega) (by omega) hR3.hk rfl rfl fun w' hI=>?_
   have hE59:=hE5.trans hE9
   refine bp (by omega) ?_
   refine ⟨⟨k+1,css'.set k (css'[k].set 0 (.slice na r.1[k].length ncap)),S9,by omega,rfl,by rw [nZ,hll],hE3.trans hE59,?_,?_⟩,by simp only [intOf,dv]; omega⟩
   ·have h9:=(hR3.monoR fun _ _=>RdAns.mono hE59.1).set k (cs:=css'[k].set 0 (.slice na r.1[k].length ncap)) (y:=r.1[k]) ⟨_,by rw [hu]; rfl,hn⟩ (by rw [hu]; rfl)
    rwa [List.set_getElem_self] at h9
   ·have hI:Inv w [] [aJ (.slice (some ⟨g,0,none⟩) css'.length cap) fp 1 (css'.set k (css'[k].set 0 (.slice na r.1[k].length ncap)))] S9 _:=hI
    rw [aJ,nZ] at hI
    rw [<- hll]
    exact hI
  ·rw [<- hll] at hI
   have hI:Inv w [] ([]++[aJ v fp 1 css']) S3 _:=hI
   obtain ⟨S4,hE4,hrd,hI⟩:=hI.lendExt
   exact ⟨_,_,S4,rfl,hI,(hE12.trans hE3).trans hE4,rfl,v,rfl,RowRd.rows (hR3.monoR fun _ _=>RdAns.mono hE4.1) hrd⟩
 ·rw [hb]
  refine aw (fun _=>?_) (fun h=>by cases h)
  exact ⟨_,_,S,rfl,hI,Ext.refl _ _ _,rfl,_,rfl,none,0,rfl,aW _,be _,.inl rfl⟩
theorem Pp {p:List C} {q:List T} {S:ae} {pv qv:Value} (h4:RdSl S 5 (RdC S) pv p) (hq:RdSl S 4 (RdT S) qv q) {most fuel:Nat} (hm:most<=20) (hf:fuel<=300) {r:List (List T) × Int} (hr:SolR p q most fuel r) :
  Tri Tryz.prog Vq [pv,qv,.int .i64 (most:Int),.int .i64 (fuel:Int)] [] S fun x I' S'=>I'=[]/\∃ v,x=.tuple #[v,.int .i64 r.2]/\RdSl S' 1 (RdAns S') v r.1:=by
 intro w hI
 refine FE.2 ?_
 dsimp only[FE,lC]
 refine Run.call0E QO Sv hI (Oe h4 hq hm hf hr) fun v' I' S1 w'=>?_
 rintro ⟨rfl,v,rfl,hR⟩ hE1 hI
 refine ar rfl ?_
 refine ar rfl ?_
 exact ⟨_,_,S1,rfl,hI,hE1,rfl,v,rfl,hR⟩
end
end
section
open Go Go.RowKit
mutual
def pcT:PF->Int
 | .mk g _ ks=>ew g+pcL ks
def pcL:List PF->Int
 | []=>0
 | p::ps=>pcT p+pcL ps
end
section
attribute [local irreducible] Run CondV az aO
end
end
section
open Go Go.RowKit
inductive BKd where
 | one
 | many (n:Nat)
inductive BldR (st:al):BKd->List Sp->Option (List PF × List Sp)->Prop
 | big {x:Sp} {l:List Sp} {u:T}:Res st (.one x.goal u)->bI u=false->BldR st .one (x::l) none
 | bad {x:Sp} {l:List Sp} {u:T}:Res st (.one x.goal u)->bI u=true->BldR st (.many x.body.toNat) l none->BldR st .one (x::l) none
 | node {x:Sp} {l l1:List Sp} {u:T} {ks:List PF}:Res st (.one x.goal u)->bI u=true->BldR st (.many x.body.toNat) l (some (ks,l1))->BldR st .one (x::l) (some ([.mk u x.clause ks],l1))
 | nil {l:List Sp}:BldR st (.many 0) l (some ([],l))
 | stop {n:Nat} {l:List Sp}:BldR st .one l none->BldR st (.many (n+1)) l none
 | next {n:Nat} {l l1:List Sp} {k:PF}:BldR st .one l (some ([k],l1))->BldR st (.many n) l1 none->BldR st (.many (n+1)) l none
 | cons {n:Nat} {l l1 l2:List Sp} {k:PF} {ks:List PF}:BldR st .one l (some ([k],l1))->BldR st (.many n) l1 (some (ks,l2))->BldR st (.many (n+1)) l (some (k::ks,l2))
theorem BldR.suf {st:al} {j:BKd} {l:List Sp} {o:Option (List PF × List Sp)} (h:BldR st j l o):∀ ks l2,o=some (ks,l2)->∃ a,l=a++l2:=by
 induction h with
 | big=>intro ks l2 h; cases h
 | bad=>intro ks l2 h; cases h
 | stop=>intro ks l2 h; cases h
 | next=>intro ks l2 h; cases h
 | nil=>
  intro ks l2 h
  simp only [bg,cT] at h
  obtain ⟨rfl,rfl⟩:=h
  exact ⟨[],rfl⟩
 | @node x _ _ _ _ _ _ _ ih=>
  intro ks l2 h
  simp only [bg,cT] at h
  obtain ⟨rfl,rfl⟩:=h
  obtain ⟨a,rfl⟩:=ih _ _ rfl
  exact ⟨x::a,rfl⟩
 | cons _ _ ih1 ih2=>
  intro ks l2 h
  simp only [bg,cT] at h
  obtain ⟨rfl,rfl⟩:=h
  obtain ⟨a,rfl⟩:=ih1 _ _ rfl
  obtain ⟨b,rfl⟩:=ih2 _ _ rfl
  exact ⟨a++b,by rw [eK]⟩
mutual
def pwT:PF->Prop
 | .mk g _ ks=>wT g<=840/\pwL ks
def pwL:List PF->Prop
 | []=>True
 | p::ps=>pwT p/\pwL ps
end
theorem BldR.size {N:Nat} {st:al} (hg:Good N st) {j:BKd} {l:List Sp} {o:Option (List PF × List Sp)} (h:BldR st j l o):okLp N l->∀ ks l2,o=some (ks,l2)->pcL ks+120 * (l2.length:Int)<=120 * (l.length:Int)/\pwL ks:=by
 induction h with
 | big=>intro _ ks l2 h; cases h
 | bad=>intro _ ks l2 h; cases h
 | stop=>intro _ ks l2 h; cases h
 | next=>intro _ ks l2 h; cases h
 | nil=>
  intro _ ks l2 h
  simp only [bg,cT] at h
  obtain ⟨rfl,rfl⟩:=h
  exact ⟨by rw [pcL]; omega,trivial⟩
 | @node x l _ u _ hu hsm _ ih=>
  intro ho ks l2 h
  simp only [bg,cT] at h
  obtain ⟨rfl,rfl⟩:=h
  obtain ⟨h1,h2⟩:=ih (fun y hy=>ho y (aV _ hy)) _ _ rfl
  have hou:okU N u:=jD hg hu (ho x (aS ..)).1.1
  have hw:=gj hsm hou
  rw [bI,bu] at hsm
  have hc:=of_decide_eq_true hsm.1
  refine ⟨?_,?_⟩
  ·rw [pcL,pcL,pcT,bw]; omega
  ·rw [pwL,pwT,pwL]; exact ⟨⟨hw,h2⟩,trivial⟩
 | @cons _ l l1 l2 k ks' h1 _ ih1 ih2=>
  intro ho ks l3 h
  simp only [bg,cT] at h
  obtain ⟨rfl,rfl⟩:=h
  obtain ⟨a,e⟩:=h1.suf _ _ rfl
  obtain ⟨q1,q2⟩:=ih1 ho _ _ rfl
  obtain ⟨q3,q4⟩:=ih2 (fun y hy=>ho y (by rw [e]; exact iA _ hy)) _ _ rfl
  rw [pcL,pcL] at q1
  rw [pwL] at q2
  refine ⟨?_,?_⟩
  ·rw [pcL]; omega
  ·rw [pwL]; exact ⟨q2.1,q4⟩
end
section
open Go Go.RowKit
section
attribute [local irreducible] Run CondV az aO
end
end
section
open Go Go.RowKit
def RdSp (S:ae) (cs:List Value) (x:Sp):Prop:=∃ hd,cs=hd++[.int .i64 x.clause,.int .i64 x.body]/\RdT S hd x.goal
theorem RdSp.length {S:ae} {cs:List Value} {x:Sp} (h:RdSp S cs x):cs.length=6:=by
 obtain ⟨hd,rfl,h⟩:=h; simp [h.length]
theorem RdSp.one {S:ae} {cs:List Value} {x:Sp} (h:RdSp S cs x):∀ u∈cs,u.oneCell'=true:=by
 obtain ⟨hd,rfl,h⟩:=h
 intro u hu
 rcases bO.1 hu with hu|hu
 ·exact h.one u hu
 ·simp only [bN,jd,je] at hu
  rcases hu with rfl|rfl <;> rfl
theorem RdSp.mono {S S':ae} {cs:List Value} {x:Sp} (hs:Sle S S') (h:RdSp S cs x):RdSp S' cs x:=by
 obtain ⟨hd,rfl,h⟩:=h; exact ⟨hd,rfl,h.mono hs⟩
theorem RdSl.monoSp {S S':ae} {v:Value} {xs:List Sp} (hs:Sle S S') (h:RdSl S 6 (RdSp S) v xs):RdSl S' 6 (RdSp S') v xs:=h.mono hs fun _ _=>RdSp.mono hs
def RdVS (S:ae) (cs:List Value) (l:List Sp):Prop:=∃ v,cs=[v]/\RdSl S 6 (RdSp S) v l
theorem RdVS.length {S:ae} {cs:List Value} {l:List Sp} (h:RdVS S cs l):cs.length=1:=by
 obtain ⟨v,rfl,h⟩:=h; rfl
theorem RdVS.one {S:ae} {cs:List Value} {l:List Sp} (h:RdVS S cs l):∀ u∈cs,u.oneCell'=true:=by
 obtain ⟨v,rfl,h⟩:=h
 intro u hu
 rw [cd] at hu
 subst hu
 exact h.sl
theorem RdVS.mono {S S':ae} {cs:List Value} {l:List Sp} (hs:Sle S S') (h:RdVS S cs l):RdVS S' cs l:=by
 obtain ⟨v,rfl,h⟩:=h; exact ⟨v,rfl,h.monoSp hs⟩
theorem RdSl.monoVS {S S':ae} {v:Value} {xs:List (List Sp)} (hs:Sle S S') (h:RdSl S 1 (RdVS S) v xs):RdSl S' 1 (RdVS S') v xs:=h.mono hs fun _ _=>RdVS.mono hs
def RdSe (S:ae) (cs:List Value) (s:Se):Prop:=∃ g b c t v,cs=[g,b,c,t,v]/\RdSl S 5 (RdG S) g s.st.goals/\RdSl S 4 (RdO S) b s.st.binds/\RdSl S 7 (RdCh S) c s.st.chs/\RdSl S 6 (RdSp S) t s.steps/\RdSl S 1 (RdVS S) v s.saved
theorem RdSe.length {S:ae} {cs:List Value} {s:Se} (h:RdSe S cs s):cs.length=5:=by
 obtain ⟨g,b,c,t,v,rfl,_⟩:=h; rfl
theorem RdSe.one {S:ae} {cs:List Value} {s:Se} (h:RdSe S cs s):∀ u∈cs,u.oneCell'=true:=by
 obtain ⟨g,b,c,t,v,rfl,h1,h2,h3,h4,h5⟩:=h
 intro u hu
 simp only [bN,jd,je] at hu
 rcases hu with rfl|rfl|rfl|rfl|rfl
 ·exact h1.sl
 ·exact h2.sl
 ·exact h3.sl
 ·exact h4.sl
 ·exact h5.sl
theorem RdSe.mono {S S':ae} {cs:List Value} {s:Se} (hs:Sle S S') (h:RdSe S cs s):RdSe S' cs s:=by
 obtain ⟨g,b,c,t,v,rfl,h1,h2,h3,h4,h5⟩:=h
 exact ⟨g,b,c,t,v,rfl,h1.monoG hs,h2.monoO hs,h3.monoCh hs,h4.monoSp hs,h5.monoVS hs⟩
def apC {α:Type} (w0:World) (X:List Nat) (A:List Item) (T:TypeId) (k:Nat) (R:ae->List Value->α->Prop) (xs:List α) (y:α) (S:ae) (v0 v1 v2:Value) (w:World):Nat->Prop
 | 0=>Inv w0 X A S w
 | 1=>Inv w0 X (A++[aJ v0 T k []]) S w
 | 2=>∃ css,Rows k (R S) css xs/\Inv w0 X (A++[aJ v1 T k css]) S w
 | _=>RdSl S k (R S) v2 (xs++[y])/\Inv w0 X A S w
section
variable {α:Type} {w0 w:World} {X:List Nat} {A:List Item} {T:TypeId} {k n:Nat} {R:ae->List Value->α->Prop} {xs:List α} {y:α} {S:ae} {v0 v1 v2:Value}
theorem apC.ex (hR:∀ S S' cs x,Sle S S'->R S cs x->R S' cs x) (h:apC w0 X A T k R xs y S v0 v1 v2 w n) :
  ∃ B,Inv w0 X (A++B) S w/\∀ A' S1 w1,Sle S S1->Inv w0 X (A'++B) S1 w1->apC w0 X A' T k R xs y S1 v0 v1 v2 w1 n:=by
 match n,h with
 | 0,h=>exact ⟨[],by rw [dh]; exact h,fun A' S1 w1 _ hI=>by rw [dh] at hI; exact hI⟩
 | 1,h=>exact ⟨_,h,fun A' S1 w1 _ hI=>hI⟩
 | 2,⟨css,h1,h2⟩=>exact ⟨_,h2,fun A' S1 w1 hs hI=>⟨css,h1.monoR fun _ _ h=>hR _ _ _ _ hs h,hI⟩⟩
 | n+3,⟨h1,h2⟩=>exact ⟨[],by rw [dh]; exact h2,fun A' S1 w1 hs hI=>⟨h1.mono hs fun _ _ h=>hR _ _ _ _ hs h,by rw [dh] at hI; exact hI⟩⟩
theorem apC.inv (h:apC w0 X A T k R xs y S v0 v1 v2 w n):∃ B,Inv w0 X (A++B) S w:=by
 match n,h with
 | 0,h=>exact ⟨[],by rw [dh]; exact h⟩
 | 1,h=>exact ⟨_,h⟩
 | 2,⟨css,h1,h2⟩=>exact ⟨_,h2⟩
 | n+3,⟨h1,h2⟩=>exact ⟨[],by rw [dh]; exact h2⟩
end
section
variable {α:Type} {P:Program} {w0 w:World} {X:List Nat} {A:List Item} {k:Nat} {R:ae->List Value->α->Prop} {xs:List α} {y:α} {S:ae} {v0 v1 v2:Value} {K:Value->World->Prop}
attribute [local irreducible] Run
end
section
variable {w:World} {K:Value->World->Prop}
attribute [local irreducible] Run
theorem VC {a b c d:Value} {i:Int} (hk:K (.agg #[a,b,c,d,.int .i64 i,.slice none 0 0]) w):Run Tryz.prog (cB aK [(0,.agg #[a,b,c,d]),(1,.int .i64 i)]) w K:=by
 refine Run.of (v:=.agg #[a,b,c,d,.int .i64 i,.slice none 0 0]) (w':=w) ?_ hk
 unfold cB
 rw [Sem.run_bind,run_build w aK _ #[a,b,c,d,.int .i64 i,.slice none 0 0] (by kernel_rfl),Result.andThen_ok]
 rfl
theorem qX  (hk:K (.agg #[.int .i64 0,.int .i64 0,.string ⟨#[]⟩,.slice none 0 0,.int .i64 0,.slice none 0 0]) w):Run Tryz.prog (cB aK []) w K:=by
 refine Run.of (v:=.agg #[.int .i64 0,.int .i64 0,.string ⟨#[]⟩,.slice none 0 0,.int .i64 0,.slice none 0 0]) (w':=w) ?_ hk
 unfold cB
 rw [Sem.run_bind,run_build w aK _ #[.int .i64 0,.int .i64 0,.string ⟨#[]⟩,.slice none 0 0,.int .i64 0,.slice none 0 0] (by kernel_rfl),Result.andThen_ok]
 rfl
end
end
section
open Go Go.RowKit
abbrev zPr:Array Value:=#[.int .i64 0,.int .i64 0,.string ⟨#[]⟩,.slice none 0 0,.int .i64 0,.slice none 0 0]
abbrev dsC (ds:List Value) (cl:Int):Array Value:=(ds++[Value.int .i64 cl,Value.slice none 0 0]).toArray
theorem YA {ds:List Value} {cl:Int} (h:∀ u∈ds,u.oneCell'=true):∀ u∈ds++[Value.int .i64 cl,Value.slice none 0 0],u.oneCell'=true:=by
 intro u hu
 simp only [bO,bN,jd,je] at hu
 rcases hu with hu|rfl|rfl
 ·exact h u hu
 ·rfl
 ·rfl
def kG (B1 B3 B3' r r' B27:Item) (d8 d9 d11:Bool):List Item:=
 B1::(match d11 with|true=>B3'|false=>B3)::(match d9 with|true=>r'|false=>r)::(match d8 with|true=>[B27]|false=>[])
section
variable {w:World} {K:Value->World->Prop}
attribute [local irreducible] Run
theorem RX {ds:List Value} (h4:ds.length=4) {i:Int} (hk:K (.agg (dsC ds i)) w):Run Tryz.prog (cB aK [(0,.agg ds.toArray),(1,.int .i64 i)]) w K:=by
 match ds,h4 with
 | [a,b,c,d],_=>exact VC hk
end
section
attribute [local irreducible] Run CondV az aO
abbrev ZX (g:T):Value->List Item->ae->Prop:=fun q I' S'=>I'=[]/\∃ cs x,q=.agg cs.toArray/\RdF S' cs x/\x.goal=g
set_option maxHeartbeats 1000000 in
theorem JC {ns:List NI} {gs:List T} (hl:ns.length=gs.length) (h60:ns.length<=60) (hc:∀ x∈ns,-1<=x.clause/\x.clause<=20) (hw:∀ t∈gs,wT t<=1048576):∀ (n at_:Nat),ns.length - at_=n->∀ (h:at_<gs.length) (S:ae) (nv gv:Value),RdSl S 6 (RdNI S) nv ns->RdSl S 4 (RdT S) gv gs->
  Tri Tryz.prog NP [nv,gv,.int .i64 (at_:Int)] [] S (ZX gs[at_]):=by
 intro n
 induction n using Nat.strongRecOn with
 | _ n ih=>
 intro at_ hn hat S nv gv hns hgs w hI
 have hann:at_<ns.length:=by omega
 have hns0:=hns
 have hgs0:=hgs
 obtain ⟨gb,go,gc,gcc,gE,gfz,hge,hgS,hgR⟩:=hgs.at_ hat
 obtain ⟨nb,no,ncap,ncc,nE,nfz,hne,hnS,hnR⟩:=hns.at_ hann
 subst hge hne
 have hgl:=hgR.length
 have hwg:=hw _ (bz hat)
 obtain ⟨cl,hcl⟩:∃ cl,cl=ns[at_].clause:=⟨_,rfl⟩
 have hclr:=hc _ (bz hann)
 rw [<- hcl] at hclr
 obtain ⟨n0,n1,n2,n3,hnce,_⟩:=hnR
 have hcell:ncc[no+at_ * 6+5]?=some (.int .i64 cl):=by rw [hcl]; exact aH hnce 5 _ rfl
 refine Ab.2 ?_
 dsimp only[Ab,dN]
 refine aT hI pl fun b6 w' hI=>?_
 have hI:Inv w [] [.blk b6 (.cells zPr aK)] S w':=hI
 refine ⟨fun D x7 lp rT lN pr wJ AJ vC wi Gi GJ x9 w_=>Fx D 0 [x9=.slice (some ⟨gb,go,none⟩) gs.length gc,GJ=.int .i64 (at_:Int),Gi=.pointer (some ⟨gb,go+at_ * 4,none⟩),wi=.agg (aX gcc (go+at_ * 4) 4).toArray,True,AJ=.slice (some ⟨nb,no,none⟩) ns.length ncap,wJ=.int .i64 (at_:Int),pr=.pointer (some ⟨nb,no+at_ * 6,none⟩),lN=.pointer (some ⟨nb,no+at_ * 6+5,none⟩),rT=.int .i64 cl,True,True,True]/\∃ SN ds b7,Ext w.heap.size [] S SN/\(D 4=true->vC=.agg ds.toArray/\RdT SN ds gs[at_])/\(D 10=true->D 4=true/\lp=.agg (dsC ds cl))/\(D 11=true->x7=.pointer (some ⟨b7,0,none⟩))/\(D 12=true->D 11=true/\D 10=true)/\Inv w [] (.blk b6 (.cells zPr aK)::cond (D 11) [.blk b7 (.cells (cond (D 12) (dsC ds cl) zPr) aK)] []) SN w_,⟨Fx.nil _ _,⟨S,[],0,Ext.refl _ _ _,aQ,aQ,aQ,aQ,hI.draw⟩⟩,⟨?_,?_,?_,?_,?_,?_,?_,?_,?_,?_,?_,?_,?_,trivial⟩,?_⟩
 all_goals (intro D bF; intros; rename_i x7 lp rT lN pr wJ AJ vC wi Gi GJ x9 w_ hA_; have hF_:=hA_.1; obtain ⟨⟨cj,ci,bR,ce,bP,bY,bZ,cH,c5,dI,bX,cr,cZ,_⟩,⟨SN,ds,b7,hN,k4,k10,k11,k12,hI⟩⟩:=hA_)
 ·exact ⟨hF_.set 0 rfl,⟨SN,ds,b7,hN,k4,k10,k11,k12,hI⟩⟩
 ·exact ⟨hF_.set 1 rfl,⟨SN,ds,b7,hN,k4,k10,k11,k12,hI⟩⟩
 ·obtain rfl:=cj ‹_›
  obtain rfl:=ci ‹_›
  refine aE ag hat ?_
  exact ⟨hF_.set 2 rfl,⟨SN,ds,b7,hN,k4,k10,k11,k12,hI⟩⟩
 ·obtain rfl:=bR ‹_›
  refine bL ad hgl (fun j u hj=>by rw [hI.cellS (hN.1 _ _ hgS)]; exact aH rfl j u hj) ?_
  exact ⟨hF_.set 3 rfl,⟨SN,ds,b7,hN,k4,k10,k11,k12,hI⟩⟩
 ·obtain rfl:=ce ‹_›
  refine Run.call0E HA G9 hI (AY _ _ _ (hgR.mono hN.1) hwg) fun v' I' S' w_=>?_
  rintro ⟨eS,dn,L,rfl,rfl,hT⟩ _ hI
  rw [eS] at hI
  obtain ⟨SM,hI,hM,hins⟩:=hI.pubExt
  have hds:=hT.rd hins
  have f12:D 12=false:=bB.2 fun h=>by rw [(k10 (k12 h).2).1] at bF; cases bF
  have k10:aD D 4 10=true->aD D 4 4=true/\lp=.agg (dsC dn cl):=fun h=>by rw [(k10 h).1] at bF; cases bF
  rw [f12] at hI
  have hI:Inv w [] (.blk b6 (.cells zPr aK)::cond (D 11) [.blk b7 (.cells (cond (D 12) (dsC dn cl) zPr) aK)] []) SM w_:=by rw [f12]; exact hI
  have k4:=fun (_:aD D 4 4=true)=>(⟨rfl,hds⟩:Value.agg dn.toArray=.agg dn.toArray/\RdT SM dn gs[at_])
  have hN:=hN.trans hM
  obtain ⟨SN,hSN⟩:∃ SN,SN=SM:=⟨_,rfl⟩
  subst hSN
  obtain ⟨ds,hdn⟩:∃ ds,ds=dn:=⟨_,rfl⟩
  subst hdn
  exact ⟨hF_.set 4 (by first|assumption|trivial),⟨SN,ds,b7,hN,k4,k10,k11,k12,hI⟩⟩
 ·exact ⟨hF_.set 5 rfl,⟨SN,ds,b7,hN,k4,k10,k11,k12,hI⟩⟩
 ·exact ⟨hF_.set 6 rfl,⟨SN,ds,b7,hN,k4,k10,k11,k12,hI⟩⟩
 ·obtain rfl:=bY ‹_›
  obtain rfl:=bZ ‹_›
  refine aE gA hann ?_
  exact ⟨hF_.set 7 rfl,⟨SN,ds,b7,hN,k4,k10,k11,k12,hI⟩⟩
 ·obtain rfl:=cH ‹_›
  refine au H0 ?_
  exact ⟨hF_.set 8 rfl,⟨SN,ds,b7,hN,k4,k10,k11,k12,hI⟩⟩
 ·obtain rfl:=c5 ‹_›
  refine ct aG ((hI.cellS (hN.1 _ _ hnS)).trans hcell) ?_
  exact ⟨hF_.set 9 rfl,⟨SN,ds,b7,hN,k4,k10,k11,k12,hI⟩⟩
 ·have QG:=bP ‹_›
  obtain rfl:=dI ‹_›
  obtain ⟨e13,hT⟩:=k4 ‹D 4=true›
  rw [e13]
  refine RX hT.length ?_
  rw [<- e13]
  have k10:=fun (_:aD D 10 10=true)=>(⟨‹D 4=true›,rfl⟩:D 4=true/\Value.agg (dsC ds cl)=.agg (dsC ds cl))
  have k12:aD D 10 12=true->aD D 10 11=true/\aD D 10 10=true:=fun h=>⟨(k12 h).1,rfl⟩
  exact ⟨hF_.set 10 (by first|assumption|trivial),⟨SN,ds,b7,hN,k4,k10,k11,k12,hI⟩⟩
 ·have f12:D 12=false:=bB.2 fun h=>by rw [(k12 h).1] at bF; cases bF
  rw [bF] at hI
  refine aT hI pl fun b7 w_ hI=>?_
  have k11:=fun (_:aD D 11 11=true)=>(rfl:Value.pointer (some ⟨b7,0,none⟩)=_)
  have k12:aD D 11 12=true->aD D 11 11=true/\aD D 11 10=true:=fun h=>by rw [show D 12=true from h] at f12; cases f12
  have hI:Inv w [] (.blk b6 (.cells zPr aK)::[.blk b7 (.cells (cond (D 12) (dsC ds cl) zPr) aK)]) SN w_:=by rw [f12]; exact hI
  exact ⟨hF_.set 11 (by first|assumption|trivial),⟨SN,ds,b7,hN,k4,k10,k11,k12,hI⟩⟩
 ·have VK:=cr ‹_›
  have M1:=bX ‹_›
  have e7:=k11 ‹D 11=true›
  have e19:=(k10 ‹D 10=true›).2
  have hT:=(k4 (k10 ‹D 10=true›).1).2
  rw [e7,e19]
  rw [‹D 11=true›,bF] at hI
  refine aC hI 1 rfl cM (by simp [hT.length]) rfl (by simpa using YA hT.one) fun w_ hI=>?_
  rw [<- e7,<- e19]
  have k12:=fun (_:aD D 12 12=true)=>(⟨‹D 11=true›,‹D 10=true›⟩:D 11=true/\D 10=true)
  have hI:Inv w [] (.blk b6 (.cells zPr aK)::cond (D 11) [.blk b7 (.cells (dsC ds cl) aK)] []) SN w_:=by rw [‹D 11=true›]; exact hI
  exact ⟨hF_.set 12 trivial,⟨SN,ds,b7,hN,k4,k10,k11,k12,hI⟩⟩
 obtain ⟨rfl,rfl,rfl,rfl,QG,rfl,rfl,rfl,rfl,rfl,M1,VK,_,_⟩:=hF_.all
 have Zx:D 4=true:=by assumption
 have np:D 11=true:=by assumption
 have abY:D 12=true:=by assumption
 clear hF_ cj ci bR ce bP bY bZ cH c5 dI bX cr cZ
 have hT:=(k4 Zx).2
 have e7:=k11 np
 rw [np,abY] at hI
 obtain ⟨kd,hde,hi1,hi2,hnm,hkd⟩:=RdT.iff.1 hT
 subst e7
 obtain ⟨g,hg⟩:∃ g,g=gs[at_]:=⟨_,rfl⟩
 rw [<- hg] at hde hi1 hi2 hnm hkd
 have hI:Inv w [] [.blk b6 (.cells zPr aK),.blk b7 (.cells #[.int .i64 g.kind,.int .i64 g.n,.string g.name,kd,.int .i64 cl,.slice none 0 0] aK)] SN w_:=by
  rw [hde] at hI
  exact hI
 clear k4 k10 k11 k12 hT hde
 refine bp (by omega) ?_
 have hI:=hI.rowNil aK 6
 have hI:Inv w [] [.blk b6 (.cells zPr aK),.blk b7 (.cells #[.int .i64 g.kind,.int .i64 g.n,.string g.name,kd,.int .i64 cl,.slice none 0 0] aK),aJ (.slice none 0 0) aK 6 []] SN w_:=hI
 refine ⟨fun t8 w'=>∃ (k:Nat) (kvc:Value) (css:List (List Value)) (xs:List PF) (S1:ae),at_<k/\k<=ns.length/\css.length<=k/\t8=.int .i64 (k:Int)/\Ext w.heap.size [] S S1/\Sle SN S1/\Rows 6 (RdF S1) css xs/\
   Inv w [] [.blk b6 (.cells zPr aK),.blk b7 (.cells #[.int .i64 g.kind,.int .i64 g.n,.string g.name,kd,.int .i64 cl,kvc] aK),aJ kvc aK 6 css] S1 w',
  fun i _=>ns.length - (intOf i).toNat,⟨at_+1,_,[],[],SN,by omega,by omega,by simp,by simp,hN,Sle.refl _,Rows.nil _ _,hI⟩,?_⟩
 clear hI
 intro t8 _ _ t43 t42 t41 t40 t39 t38 t37 t36 t35 _ _ _ _ _ _ _ _ _ _ _ w'
 rintro ⟨k,kvc,css,xs,S1,hk0,hk1,hck,rfl,hE1,hs1,hR,hI⟩
 refine eV gA ?_
 refine bH ?_
 refine aL (fun hki=>?_) (fun hki=>?_)
 ·have hk':k<ns.length:=by omega
  have hkg:k<gs.length:=by omega
  obtain ⟨nb2,no2,ncap2,ncc2,nE2,nfz2,hne2,hnS2,hnR2⟩:=hns0.at_ hk'
  simp only [Value.slice.injEq,bg,Addr.mk.injEq] at hne2
  obtain ⟨⟨rfl,rfl,_⟩,_,rfl⟩:=hne2
  obtain ⟨m0,m1,m2,m3,hmce,_⟩:=hnR2
  have hcell2:ncc2[no+k * 6+4]?=some (.int .i64 ns[k].up):=aH hmce 4 _ rfl
  refine ⟨fun w'=>∃ (kvc:Value) (css:List (List Value)) (xs:List PF) (S1:ae),css.length<=k+1/\Ext w.heap.size [] S S1/\Sle SN S1/\Rows 6 (RdF S1) css xs/\
   Inv w [] [.blk b6 (.cells zPr aK),.blk b7 (.cells #[.int .i64 g.kind,.int .i64 g.n,.string g.name,kd,.int .i64 cl,kvc] aK),aJ kvc aK 6 css] S1 w',?_,?_⟩
  ·refine aE gA hk' ?_
   refine au R8 ?_
   refine ct aG ((hI.cellS (hE1.1 _ _ hnS2)).trans hcell2) ?_
   refine bl ?_
   refine aL (fun _=>?_) (fun _=>⟨kvc,css,xs,S1,by omega,hE1,hs1,hR,hI⟩)
   obtain ⟨ka,kn,kc,hkv⟩:=hI.rowSlice 2 rfl
   subst hkv
   have hns1:=hns0.mono hE1.1 fun _ _=>RdNI.mono hE1.1
   have hgs1:=hgs0.monoT hE1.1
   refine ⟨fun D tB mg qB vh tI ll AB vN vL w_=>Fx D 0 [vL=.pointer (some ⟨b7,5,none⟩),vN=.slice ka kn kc,AB=.slice (some ⟨nb,no,none⟩) ns.length ncap,ll=.slice (some ⟨gb,go,none⟩) gs.length gc,tI=.int .i64 (k:Int),True,True,True,tB=.pointer (some ⟨b7,5,none⟩),True]/\∃ SN cs7 b8 y,Ext w.heap.size [] S1 SN/\(D 5=true->vh=.agg cs7.toArray/\RdF SN cs7 y)/\(D 6=true->qB=.slice (some ⟨b8,0,none⟩) 1 1)/\(D 6=true->D 5=true)/\(D 7=true->D 6=true)/\(D 9=true->D 7=true)/\(D 9=true->D 1=true)/\Inv w [] (kG (.blk b6 (.cells zPr aK)) (.blk b7 (.cells #[.int .i64 g.kind,.int .i64 g.n,.string g.name,kd,.int .i64 cl,.slice ka kn kc] aK)) (.blk b7 (.cells #[.int .i64 g.kind,.int .i64 g.n,.string g.name,kd,.int .i64 cl,mg] aK)) (aJ (.slice ka kn kc) aK 6 css) (aJ mg aK 6 (css++[cs7])) (.blk b8 (.cells cs7.toArray aK)) (D 6) (D 7) (D 9)) SN w_,⟨Fx.nil _ _,⟨S1,[],0,.mk zT 0 [],Ext.refl _ _ _,aQ,aQ,aQ,aQ,aQ,aQ,by simpa [kG] using hI.draw⟩⟩,⟨?_,?_,?_,?_,?_,?_,?_,?_,?_,?_,trivial⟩,?_⟩
   all_goals (intro D bF; intros; rename_i tB mg qB vh tI ll AB vN vL w_ hA_; have hF_:=hA_.1; obtain ⟨⟨cj,ci,bR,ce,bP,bY,bZ,cH,c5,dI,_⟩,⟨SN,cs7,b8,y,hN,e7,e8,k8,k9,k11,k1,hI⟩⟩:=hA_)
   ·refine au fH ?_
    exact ⟨hF_.set 0 rfl,⟨SN,cs7,b8,y,hN,e7,e8,k8,k9,k11,k1,hI⟩⟩
   ·obtain rfl:=cj ‹_›
    have f11:D 9=false:=bB.2 fun h=>by rw [k1 h] at bF; cases bF
    refine aN (b:=b7) hI 1 (c:=(#[.int .i64 g.kind,.int .i64 g.n,.string g.name,kd,.int .i64 cl,.slice ka kn kc])) g8 (by rw [f11]; rfl) rfl ?_
    have k1:=fun (_:aD D 1 9=true)=>(rfl:aD D 1 1=true)
    exact ⟨hF_.set 1 rfl,⟨SN,cs7,b8,y,hN,e7,e8,k8,k9,k11,k1,hI⟩⟩
   ·exact ⟨hF_.set 2 rfl,⟨SN,cs7,b8,y,hN,e7,e8,k8,k9,k11,k1,hI⟩⟩
   ·exact ⟨hF_.set 3 rfl,⟨SN,cs7,b8,y,hN,e7,e8,k8,k9,k11,k1,hI⟩⟩
   ·exact ⟨hF_.set 4 rfl,⟨SN,cs7,b8,y,hN,e7,e8,k8,k9,k11,k1,hI⟩⟩
   ·obtain rfl:=bR ‹_›
    obtain rfl:=ce ‹_›
    obtain rfl:=bP ‹_›
    have f8:D 6=false:=bB.2 fun h=>by rw [k8 h] at bF; cases bF
    have f9:D 7=false:=bB.2 fun h=>by rw [k9 h] at f8; cases f8
    have f11:D 9=false:=bB.2 fun h=>by rw [k11 h] at f9; cases f9
    rw [f8,f9,f11] at hI
    refine Run.call0E zk yQ hI (ih _ (by omega) k rfl hkg SN _ _ (hns1.mono hN.1 fun _ _=>RdNI.mono hN.1) (hgs1.monoT hN.1)) fun v' I' SM w_=>?_
    rintro ⟨rfl,cm,ym,rfl,hT,_⟩ hE2 hI
    have hN:=hN.trans hE2
    have e7:=fun (_:aD D 5 5=true)=>(⟨rfl,hT⟩:Value.agg cm.toArray=Value.agg cm.toArray/\RdF SM cm ym)
    have k8:=fun (_:aD D 5 6=true)=>(rfl:aD D 5 5=true)
    have hI:Inv w [] (kG (.blk b6 (.cells zPr aK)) (.blk b7 (.cells #[.int .i64 g.kind,.int .i64 g.n,.string g.name,kd,.int .i64 cl,.slice ka kn kc] aK)) (.blk b7 (.cells #[.int .i64 g.kind,.int .i64 g.n,.string g.name,kd,.int .i64 cl,mg] aK)) (aJ (.slice ka kn kc) aK 6 css) (aJ mg aK 6 (css++[cm])) (.blk b8 (.cells cm.toArray aK)) (D 6) (D 7) (D 9)) SM w_:=by
     rw [f8,f9,f11]
     simpa [kG] using hI
    obtain ⟨SN,hSN⟩:∃ SN,SN=SM:=⟨_,rfl⟩
    subst hSN
    obtain ⟨cs7,hcm⟩:∃ cs7,cs7=cm:=⟨_,rfl⟩
    subst hcm
    obtain ⟨y,hym⟩:∃ y,y=ym:=⟨_,rfl⟩
    subst hym
    exact ⟨hF_.set 5 (by first|assumption|trivial),⟨SN,cs7,b8,y,hN,e7,e8,k8,k9,k11,k1,hI⟩⟩
   ·have Ro:=bY ‹_›
    have f9:D 7=false:=bB.2 fun h=>by rw [k9 h] at bF; cases bF
    have f11:D 9=false:=bB.2 fun h=>by rw [k11 h] at f9; cases f9
    obtain ⟨q7,hT⟩:=e7 ‹D 5=true›
    subst q7
    rw [bF,f9,f11] at hI
    refine er hI FA (by simp [Value.cells,hT.length]) (by omega) (by omega) fun b8 w_ hI=>?_
    have e7:=fun (_:aD D 6 5=true)=>(⟨rfl,hT⟩:Value.agg cs7.toArray=Value.agg cs7.toArray/\RdF SN cs7 y)
    have e8:=fun (_:aD D 6 6=true)=>(rfl:Value.slice (some ⟨b8,0,none⟩) 1 1=_)
    have k8:=fun (_:aD D 6 6=true)=>‹D 5=true›
    have k9:=fun (_:aD D 6 7=true)=>(rfl:aD D 6 6=true)
    have hI:Inv w [] (kG (.blk b6 (.cells zPr aK)) (.blk b7 (.cells #[.int .i64 g.kind,.int .i64 g.n,.string g.name,kd,.int .i64 cl,.slice ka kn kc] aK)) (.blk b7 (.cells #[.int .i64 g.kind,.int .i64 g.n,.string g.name,kd,.int .i64 cl,mg] aK)) (aJ (.slice ka kn kc) aK 6 css) (aJ mg aK 6 (css++[cs7])) (.blk b8 (.cells cs7.toArray aK)) true (D 7) (D 9)) SN w_:=by
     rw [f9,f11]
     simpa [kG,Value.cells] using hI
    exact ⟨hF_.set 6 (by first|assumption|trivial),⟨SN,cs7,b8,y,hN,e7,e8,k8,k9,k11,k1,hI⟩⟩
   ·obtain rfl:=ci ‹_›
    have NF:=bZ ‹_›
    have f11:D 9=false:=bB.2 fun h=>by rw [k11 h] at bF; cases bF
    have q8:=e8 ‹D 6=true›
    subst q8
    obtain ⟨_,hT⟩:=e7 ‹D 5=true›
    rw [‹D 6=true›,bF,f11] at hI
    have hblk:(kG (.blk b6 (.cells zPr aK)) (.blk b7 (.cells #[.int .i64 g.kind,.int .i64 g.n,.string g.name,kd,.int .i64 cl,.slice ka kn kc] aK)) (.blk b7 (.cells #[.int .i64 g.kind,.int .i64 g.n,.string g.name,kd,.int .i64 cl,mg] aK)) (aJ (.slice ka kn kc) aK 6 css) (aJ mg aK 6 (css++[cs7])) (.blk b8 (.cells cs7.toArray aK)) true false false)[3]?=some (.blk b8 (.cells cs7.toArray aK)):=rfl
    refine dZ hI 2 cs7 FA (by omega) rfl (by rw [hT.length]) (m:=1) (o:=0) ?_ hT.one (by omega) (by omega) fun v' w_ hI=>?_
    ·intro i u hi
     rw [hI.cellL hblk,cq]
     simpa using hi
    rw [eF] at hI
    have k9:=fun (_:aD D 7 7=true)=>‹D 6=true›
    have k11:=fun (_:aD D 7 9=true)=>(rfl:aD D 7 7=true)
    have hI:Inv w [] (kG (.blk b6 (.cells zPr aK)) (.blk b7 (.cells #[.int .i64 g.kind,.int .i64 g.n,.string g.name,kd,.int .i64 cl,.slice ka kn kc] aK)) (.blk b7 (.cells #[.int .i64 g.kind,.int .i64 g.n,.string g.name,kd,.int .i64 cl,v'] aK)) (aJ (.slice ka kn kc) aK 6 css) (aJ v' aK 6 (css++[cs7])) (.blk b8 (.cells cs7.toArray aK)) (D 6) true (D 9)) SN w_:=by
     rw [‹D 6=true›,f11]
     exact hI
    exact ⟨hF_.set 7 (by first|assumption|trivial),⟨SN,cs7,b8,y,hN,e7,e8,k8,k9,k11,k1,hI⟩⟩
   ·refine au fH ?_
    exact ⟨hF_.set 8 rfl,⟨SN,cs7,b8,y,hN,e7,e8,k8,k9,k11,k1,hI⟩⟩
   ·obtain rfl:=c5 ‹_›
    have Io:=cH ‹_›
    rw [‹D 6=true›,‹D 7=true›,bF] at hI
    obtain ⟨va,vn,vc,hv9⟩:=Inv.rowSlice hI 2 rfl
    refine cW hI 1 (n:=1) (by rw [hv9]; rfl) (by decide +kernel) rfl (by simp) (by rw [hv9]; simp [Value.cells,Value.oneCell']) fun w_ hI=>?_
    have hcl9:Value.cells mg=#[mg]:=by rw [hv9]; rfl
    rw [hcl9] at hI
    have k1:=fun (_:aD D 9 9=true)=>‹D 1=true›
    have k11:=fun (_:aD D 9 9=true)=>‹D 7=true›
    have hI:Inv w [] (kG (.blk b6 (.cells zPr aK)) (.blk b7 (.cells #[.int .i64 g.kind,.int .i64 g.n,.string g.name,kd,.int .i64 cl,.slice ka kn kc] aK)) (.blk b7 (.cells #[.int .i64 g.kind,.int .i64 g.n,.string g.name,kd,.int .i64 cl,mg] aK)) (aJ (.slice ka kn kc) aK 6 css) (aJ mg aK 6 (css++[cs7])) (.blk b8 (.cells cs7.toArray aK)) (D 6) (D 7) true) SN w_:=by
     rw [‹D 6=true›,‹D 7=true›]
     exact hI
    exact ⟨hF_.set 9 trivial,⟨SN,cs7,b8,y,hN,e7,e8,k8,k9,k11,k1,hI⟩⟩
   obtain ⟨rfl,rfl,rfl,rfl,rfl,Ro,NF,Io,rfl,_,_⟩:=hF_.all
   have YN:D 5=true:=by assumption
   have PC:D 6=true:=by assumption
   have AP:D 7=true:=by assumption
   have Zm:D 9=true:=by assumption
   clear hF_ cj ci bR ce bP bY bZ cH c5 dI
   obtain ⟨_,hT⟩:=e7 YN
   rw [PC,AP,Zm] at hI
   refine ⟨mg,css++[cs7],xs++[y],SN,by rw [bA,n4]; omega,hE1.trans hN,hs1.trans hN.1,(hR.monoR fun _ _ h=>h.mono hN.1).snoc hT hT.length,?_⟩
   refine hI.sub ?_
   simp only [kG]
   exact (((MI _).cons_cons _).cons_cons _).cons_cons _
  clear hI hR hE1 hs1
  intro _ _ _ _ _ _ _ _ _ _ _ _ _ _ _ _ w'
  rintro ⟨kvc,css,xs,S1,hck,hE1,hs1,hR,hI⟩
  refine bp (by omega) ?_
  exact ⟨⟨k+1,kvc,css,xs,S1,by omega,by omega,hck,by simp,hE1,hs1,hR,hI⟩,by simp only [intOf,dv]; omega⟩
 ·have hkv2:=xU (hI.its (aJ kvc aK 6 css) (by simp))
  have hone:∀ x∈([.int .i64 g.kind,.int .i64 g.n,.string g.name,kd,.int .i64 cl,kvc]:List Value),x.oneCell'=true:=by
   intro x hx
   have hkd1:kd.oneCell'=true:=by
    obtain ⟨a,c,rfl,_⟩:=hkd
    rfl
   simp at hx
   rcases hx with rfl|rfl|rfl|rfl|rfl|rfl <;> first|rfl|exact hkd1|exact hkv2.2
  refine av (c:=#[.int .i64 g.kind,.int .i64 g.n,.string g.name,kd,.int .i64 cl,kvc]) hI 1 cM rfl rfl ?_
  refine aC (cs:=#[.int .i64 g.kind,.int .i64 g.n,.string g.name,kd,.int .i64 cl,kvc]) hI 0 rfl cM rfl rfl hone fun w' hI=>?_
  refine bJ (c:=#[.int .i64 g.kind,.int .i64 g.n,.string g.name,kd,.int .i64 cl,kvc]) hI 0 cM rfl rfl ?_
  have hI:Inv w [] ([]++[aJ kvc aK 6 css]) S1 w':=hI.sub (ei [_,_] _)
  obtain ⟨S3,hE3,hrd,hI⟩:=hI.lendExt
  have hrr:=RowRd.rows (hR.monoR fun _ _ h=>h.mono hE3.1) hrd
  refine ⟨_,_,S3,rfl,hI,hE1.trans hE3,rfl,[.int .i64 g.kind,.int .i64 g.n,.string g.name,kd,.int .i64 cl,kvc],.mk g cl xs,rfl,?_,hg⟩
  exact RdF.iff.2 ⟨kd,kvc,rfl,RdT.iff.2 ⟨kd,rfl,hi1,hi2,hnm,hkd.monoT (hs1.trans hE3.1)⟩,⟨by simp only [PF.clause]; omega,by simp only [PF.clause]; omega⟩,hrr⟩
end
end
end Go.Proofs.YtgllldjiaglkcaaGreatDoor
