/- spec.l13One. -/
import Derived.Test.YtgllldjiaglkcaaGreatDoorZDr19
import Derived.Test.YtgllldjiaglkcaaGreatDoorZDr2
import Derived.Test.YtgllldjiaglkcaaGreatDoorZDr11
import Derived.Test.YtgllldjiaglkcaaGreatDoorZDr14
import Derived.Test.YtgllldjiaglkcaaGreatDoorZDr18
import Derived.Test.YtgllldjiaglkcaaGreatDoorRows
import Derived.Test.YtgllldjiaglkcaaGreatDoorTie
import Derived.ProofKit
import Derived.LaidMore
import Derived.LaidLaws
namespace Go.Proofs.YtgllldjiaglkcaaGreatDoor
section
open Go Go.RowKit
theorem OneR.inv {p:List C} {s s':Se} {e:Int} (h:OneR p s s' e):∃ g rest u,s.st.goals=g::rest/\Res s.st.binds (.one g.1 u)/\
  (((bw u=false ∨ dI u=true)/\s=s'/\e=0) ∨ (bw u=true/\dI u=false/\
   ((bB u=false/\∃ o,TakeR p s ⟨u,rest,fS p u,s.st.binds⟩ o/\((o=some s'/\e=-1) ∨ (o=none/\s=s'/\e=-2))) ∨
       (bB u=true/\∃ c st,Blt s.st.binds u c st/\((c=1/\s=s'/\e=-2) ∨ (c≠0/\c≠1/\s=s'/\e=0) ∨ (c=0/\s'=⟨⟨rest,st,s.st.chs⟩,s.steps++[⟨u,-1,0⟩],s.saved⟩/\e=-1)))))):=by
 cases h with
 | big h1 h2 h3=>exact ⟨_,_,_,h1,h2,.inl ⟨h3,rfl,rfl⟩⟩
 | took h1 h2 h3 h4 h5 h6=>exact ⟨_,_,_,h1,h2,.inr ⟨h3,h4,.inl ⟨h5,_,h6,.inl ⟨rfl,rfl⟩⟩⟩⟩
 | stuck h1 h2 h3 h4 h5 h6=>exact ⟨_,_,_,h1,h2,.inr ⟨h3,h4,.inl ⟨h5,_,h6,.inr ⟨rfl,rfl,rfl⟩⟩⟩⟩
 | fail h1 h2 h3 h4 h5 h6=>exact ⟨_,_,_,h1,h2,.inr ⟨h3,h4,.inr ⟨h5,_,_,h6,.inl ⟨rfl,rfl,rfl⟩⟩⟩⟩
 | err h1 h2 h3 h4 h5 h6 h7 h8=>exact ⟨_,_,_,h1,h2,.inr ⟨h3,h4,.inr ⟨h5,_,_,h6,.inr (.inl ⟨h7,h8,rfl,rfl⟩)⟩⟩⟩
 | solved h1 h2 h3 h4 h5 h6=>exact ⟨_,_,_,h1,h2,.inr ⟨h3,h4,.inr ⟨h5,_,_,h6,.inr (.inr ⟨rfl,rfl,rfl⟩)⟩⟩⟩
def PTk (s:Se) (o:Option Se) (S:ad) (v:Value):Prop:=∃ cs:List Value,v=.tuple #[.agg cs.toArray,.bool o.isSome]/\RdSe S cs (o.getD s)
theorem PTk.mono {s:Se} {o:Option Se} {S S':ad} {v:Value} (h:PTk s o S v) (hs:Sle S S'):PTk s o S' v:=by
 obtain ⟨cs,e,h⟩:=h
 exact ⟨cs,e,h.mono hs⟩
def IsSe (s:Se) (S:ad) (v:Value):Prop:=∃ cs:List Value,v=.agg cs.toArray/\RdSe S cs s
theorem IsSe.mono {s:Se} {S S':ad} {v:Value} (h:IsSe s S v) (hs:Sle S S'):IsSe s S' v:=by
 obtain ⟨cs,e,h⟩:=h
 exact ⟨cs,e,h.mono hs⟩
def IsCh (c:Ch) (S:ad) (v:Value):Prop:=∃ cs:List Value,v=.agg cs.toArray/\RdCh S cs c
theorem IsCh.mono {c:Ch} {S S':ad} {v:Value} (h:IsCh c S v) (hs:Sle S S'):IsCh c S' v:=by
 obtain ⟨cs,e,h⟩:=h
 exact ⟨cs,e,h.mono hs⟩
section
attribute [local irreducible] Run CondV ai az
end
end
section
open Go Go.RowKit
theorem BldR.inv0 {st:ag} {l:List Sp} {o:Option (List PF × List Sp)} (h:BldR st (.many 0) l o):o=some ([],l):=by
 cases h with
 | nil=>rfl
theorem RowRd.one {S:ad} {v:Value} {e:TypeId} {k n:Nat} {xs:List Value} (h:RowRd S v e k n xs):v.oneCell'=true:=by
 obtain ⟨_,⟨rfl,_⟩|⟨g,cap,cur,rfl,_⟩⟩:=h <;> rfl
section
attribute [local irreducible] Run CondV ai az
end
end
section
open Go Go.RowKit
mutual
def prF (vs:List Int):PF->PF
 | .mk g c ks=>.mk (FD vs g) c (prL vs ks)
def prL (vs:List Int):List PF->List PF
 | []=>[]
 | p::ps=>prF vs p::prL vs ps
end
theorem Jo (vs:List Int):∀ ps:List PF,prL vs ps=ps.map (prF vs)
 | []=>rfl
 | p::ps=>by rw [prL,Jo vs ps]; rfl
mutual
theorem Om (vs:List Int):∀ p:PF,wF (prF vs p)=wF p
 | .mk g c ks=>by rw [prF,wF,wF,Ec,LB vs ks,Jo,List.length_map]
theorem LB (vs:List Int):∀ ps:List PF,wFL (prL vs ps)=wFL ps
 | []=>rfl
 | p::ps=>by rw [prL,wFL,wFL,Om vs p,LB vs ps]
end
theorem BldR.wsize {N:Nat} {st:ag} (hg:Good N st) {j:BKd} {l:List Sp} {o:Option (List PF × List Sp)} (h:BldR st j l o):okLp N l->∀ ks l2,o=some (ks,l2)->wFL ks+ks.length+842 * l2.length<=842 * l.length:=by
 induction h with
 | big=>intro _ ks l2 h; cases h
 | bad=>intro _ ks l2 h; cases h
 | stop=>intro _ ks l2 h; cases h
 | next=>intro _ ks l2 h; cases h
 | nil=>
  intro _ ks l2 h
  simp only [Option.some.injEq,Prod.mk.injEq] at h
  obtain ⟨rfl,rfl⟩:=h
  simp [wFL]
 | @node x l _ u _ hu hsm _ ih=>
  intro ho ks l2 h
  simp only [Option.some.injEq,Prod.mk.injEq] at h
  obtain ⟨rfl,rfl⟩:=h
  have h1:=ih (fun y hy=>ho y (List.mem_cons_of_mem _ hy)) _ _ rfl
  have hou:okU N u:=gu hg hu (ho x (List.mem_cons_self ..)).1.1
  have hw:=er hsm hou
  simp only [wFL,wF,List.length_cons,List.length_nil]
  omega
 | @cons _ l l1 l2 k ks' h1 _ ih1 ih2=>
  intro ho ks l3 h
  simp only [Option.some.injEq,Prod.mk.injEq] at h
  obtain ⟨rfl,rfl⟩:=h
  obtain ⟨a,e⟩:=h1.suf _ _ rfl
  have q1:=ih1 ho _ _ rfl
  have q3:=ih2 (fun y hy=>ho y (by rw [e]; exact List.mem_append_right _ hy)) _ _ rfl
  simp only [wFL,List.length_cons,List.length_nil] at q1 ⊢
  omega
def rnC (w0:World) (X:List Nat) (b5:Nat) (F:Value->Array Value) (B:List Item) (kv:Value) (css:List (List Value)) (y:PF) (S:ad) (np g6 zx:Value) (w:World):Nat->Prop
 | 0=>Inv w0 X (B++[.blk b5 (.cells (F kv) dE),aC kv dE 6 css]) S w
 | 1=>∃ S1 cs,np=.agg cs.toArray/\Ext w0.heap.size X S S1/\RdF S1 cs y/\Inv w0 X (B++[.blk b5 (.cells (F kv) dE),aC kv dE 6 css]) S1 w
 | 2=>∃ S1,Ext w0.heap.size X S S1/\RdSl S1 6 (RdF S1) g6 [y]/\Inv w0 X (B++[.blk b5 (.cells (F kv) dE),aC kv dE 6 css]) S1 w
 | 3=>∃ S1 cs,Ext w0.heap.size X S S1/\RdF S1 cs y/\Inv w0 X (B++[.blk b5 (.cells (F kv) dE),aC zx dE 6 (css++[cs])]) S1 w
 | _=>∃ S1 kv' cs,Ext w0.heap.size X S S1/\RdF S1 cs y/\Inv w0 X (B++[.blk b5 (.cells (F kv') dE),aC kv' dE 6 (css++[cs])]) S1 w
theorem rnC.inv {w0 w:World} {X:List Nat} {b5:Nat} {F:Value->Array Value} {B:List Item} {kv:Value} {css:List (List Value)} {y:PF} {S:ad} {np g6 zx:Value}:∀ {n:Nat},rnC w0 X b5 F B kv css y S np g6 zx w n->∃ R S1,Ext w0.heap.size X S S1/\Inv w0 X (B++R) S1 w
 | 0,h=>⟨_,_,Ext.refl _ _ _,h⟩
 | 1,⟨S1,_,_,hE,_,h⟩=>⟨_,S1,hE,h⟩
 | 2,⟨S1,hE,_,h⟩=>⟨_,S1,hE,h⟩
 | 3,⟨S1,_,hE,_,h⟩=>⟨_,S1,hE,h⟩
 | _+4,⟨S1,_,_,hE,_,h⟩=>⟨_,S1,hE,h⟩
theorem rnC.low {w0 w:World} {X:List Nat} {b5:Nat} {F:Value->Array Value} {B:List Item} {kv:Value} {css:List (List Value)} {y:PF} {S:ad} {np g6 zx:Value}:∀ {n:Nat},rnC w0 X b5 F B kv css y S np g6 zx w n->n<4->∃ R S1,Inv w0 X (B++.blk b5 (.cells (F kv) dE)::R) S1 w
 | 0,h,_=>⟨_,_,h⟩
 | 1,⟨S1,_,_,_,_,h⟩,_=>⟨_,S1,h⟩
 | 2,⟨S1,_,_,h⟩,_=>⟨_,S1,h⟩
 | 3,⟨S1,_,_,_,h⟩,_=>⟨_,S1,h⟩
 | n+4,_,h=>by omega
section
attribute [local irreducible] Run CondV ai az
end
end
section
open Go Go.RowKit
theorem Srch.inv {p:List C} {n:Nat} {s:Se} {o:Option Se} (h:Srch p n s o):(s.st.goals=[]/\o=some s) ∨ (s.st.goals≠[]/\n=0/\o=none) ∨
  (s.st.goals≠[]/\∃ m s' e,n=m+1/\OneR p s s' e/\((e=0/\o=none) ∨ (e=-1/\Srch p m s' o) ∨ (e=-2/\∃ ob,BackR p s'.st.chs s'.saved ob/\((ob=none/\o=none) ∨ ∃ t,ob=some t/\Srch p m t o)))):=by
 cases h with
 | done h=>exact .inl ⟨h,rfl⟩
 | out h=>exact .inr (.inl ⟨h,rfl,rfl⟩)
 | halt h h1=>exact .inr (.inr ⟨h,_,_,_,rfl,h1,.inl ⟨rfl,rfl⟩⟩)
 | step h h1 h2=>exact .inr (.inr ⟨h,_,_,_,rfl,h1,.inr (.inl ⟨rfl,h2⟩)⟩)
 | stop h h1 h2=>exact .inr (.inr ⟨h,_,_,_,rfl,h1,.inr (.inr ⟨rfl,_,h2,.inl ⟨rfl,rfl⟩⟩)⟩)
 | back h h1 h2 h3=>exact .inr (.inr ⟨h,_,_,_,rfl,h1,.inr (.inr ⟨rfl,_,h2,.inr ⟨_,rfl,h3⟩⟩)⟩)
def FinO (s:Se) (o:Option PF):Prop:=∃ ob,BldR s.st.binds .one s.steps ob/\((ob=none/\o=none) ∨ ∃ x l2,ob=some ([x],l2)/\o=some (prF (pvT x []) x))
def FindO (p:List C) (n:Nat) (s:Se) (o:Option PF):Prop:=∃ oS,Srch p n s oS/\((oS=none/\o=none) ∨ ∃ t,oS=some t/\FinO t o)
theorem FindO.ex {p:List C} (hp:∀ cl∈p,IE cl) (hpl:p.length<=1000000) {k n:Nat} {s:Se} (hs:oG p.length s) (ho:okP s) (hx:okXk k s):∃ o,FindO p n s o:=by
 obtain ⟨oS,h1,_⟩:=Srch.ex (fun cl hc=>(hp cl hc).cf) n s hs
 cases oS with
 | none=>exact ⟨none,none,h1,.inl ⟨rfl,rfl⟩⟩
 | some t=>
  obtain ⟨q1,q2,q3⟩:=h1.ok (fun cl hc=>(hp cl hc).cf) hs ho t rfl
  obtain ⟨ob,h2,h3⟩:=Pk q1 q2 q3 (h1.okXk hp hpl k hs hx t rfl)
  cases ob with
  | none=>exact ⟨none,_,h1,.inr ⟨t,rfl,none,h2,.inl ⟨rfl,rfl⟩⟩⟩
  | some q=>
   obtain ⟨x,hx⟩:=h3 q.1 q.2 rfl
   exact ⟨_,_,h1,.inr ⟨t,rfl,some q,h2,.inr ⟨x,q.2,by rw [<- hx],rfl⟩⟩⟩
theorem FinO.w {n k:Nat} {s:Se} (hs:oG n s) (hx:okXk k s) {o:Option PF} (h:FinO s o):∀ y,o=some y->wF y<=842 * k:=by
 intro y hy
 obtain ⟨ob,h1,⟨_,rfl⟩|⟨x,l2,rfl,rfl⟩⟩:=h
 ·cases hy
 ·rw [Option.some.injEq] at hy
  subst hy
  have h2:=h1.wsize hs.st.good hx.steps _ _ rfl
  have h3:=hx.ns
  simp only [wFL,List.length_cons,List.length_nil] at h2
  rw [Om]
  omega
section
attribute [local irreducible] Run CondV ai az
end
end
section
open Go Go.RowKit
theorem FindO.w {p:List C} (hp:∀ cl∈p,IE cl) (hpl:p.length<=1000000) {k n:Nat} {s:Se} (hs:oG p.length s) (ho:okP s) (hx:okXk k s) {o:Option PF} (h:FindO p n s o):∀ y,o=some y->wF y<=842 * (k+n):=by
 obtain ⟨oS,h1,⟨rfl,rfl⟩|⟨t,rfl,h2⟩⟩:=h
 ·intro y e; cases e
 ·obtain ⟨q1,_,_⟩:=h1.ok (fun cl hc=>(hp cl hc).cf) hs ho t rfl
  exact h2.w q1 (h1.okXk hp hpl k hs hx t rfl)
section
variable {br:Nat} {sl:Value} {ys:List Nat} {S:ad}
attribute [local irreducible] Run CondV ai az
end
end
section
open Go Go.RowKit
def muC (w0:World) (X:List Nat) (b5:Nat) (F:Value->Array Value) (B:List Item) (kv:Value) (css:List (List Value)) (t:T) (y:PF) (S:ad) (EI xX GX wV:Value) (w:World):Nat->Prop
 | 0=>rnC w0 X b5 F B kv css y S xX GX wV w 0
 | 1=>∃ S1 a1 a2 a3 a4,EI=.agg #[a1,a2,a3,a4]/\Ext w0.heap.size X S S1/\RdT S1 [a1,a2,a3,a4] t/\Inv w0 X (B++[.blk b5 (.cells (F kv) dE),aC kv dE 6 css]) S1 w
 | n+2=>rnC w0 X b5 F B kv css y S xX GX wV w (n+1)
theorem muC.low {w0 w:World} {X:List Nat} {b5:Nat} {F:Value->Array Value} {B:List Item} {kv:Value} {css:List (List Value)} {t:T} {y:PF} {S:ad} {EI xX GX wV:Value}:∀ {n:Nat},muC w0 X b5 F B kv css t y S EI xX GX wV w n->n<5->∃ R S1,Inv w0 X (B++.blk b5 (.cells (F kv) dE)::R) S1 w
 | 0,h,_=>⟨_,_,h⟩
 | 1,⟨S1,_,_,_,_,_,_,_,h⟩,_=>⟨_,S1,h⟩
 | n+2,h,hn=>rnC.low (n:=n+1) h (by omega)
section
variable {br:Nat} {sl:Value} {ys:List Nat}
attribute [local irreducible] Run CondV ai az
end
end
section
open Go Go.RowKit
end
section
open Go Go.RowKit
section
attribute [local irreducible] Run CondV ai az
end
end
section
open Go Go.RowKit
section
variable {w:World} {K:Value->World->Prop}
attribute [local irreducible] Run
end
section
variable {S:ad} {ys:List Nat} {v:Value}
attribute [local irreducible] Run CondV ai az
end
end
section
open Go Go.RowKit
section
variable {br:Nat} {sl:Value} {ys:List Nat} {S:ad}
attribute [local irreducible] Run CondV ai az
theorem oN (S:ad):Tri Tryz.prog CZ [] [] S fun v I' S'=>I'=[]/\∃ l,RdSl S' 1 qh v l/\l.length=7/\l.all okS=true:=by
 intro w hI
 refine qf.2 ?_
 dsimp only[qf,j9]
 refine kG hI (by kernel_rfl) rfl (by omega) fun v S1 w' hE1 hv hI=>?_
 exact ⟨_,[],S1,rfl,hI,hE1,rfl,_,hv,rfl,by decide +kernel⟩
theorem uL (S:ad):Tri Tryz.prog zO [] [] S fun v I' S'=>I'=[]/\∃ l,RdSl S' 1 qh v l/\l.length=7/\l.all okQ=true:=by
 intro w hI
 refine mV.2 ?_
 dsimp only[mV,j9]
 refine kG hI (by kernel_rfl) rfl (by omega) fun v S1 w' hE1 hv hI=>?_
 exact ⟨_,[],S1,rfl,hI,hE1,rfl,_,hv,rfl,by decide +kernel⟩
theorem Aw {p:Nat} (hrd:RdSl S 1 jy sl ys) (hp:p<=10000000):Tri Tryz.prog Gp [rdP br] [rdI br sl p] S (Ne br sl p 3):=by
 intro w hI
 refine tO.2 ?_
 dsimp only[tO,aD]
 refine Run.call0E qw qI hI (oN S) fun v' I' S1 w'=>?_
 rintro ⟨rfl,l,hl,hl7,_⟩ hE1 hI
 have hI:Inv w [br] [rdI br sl p] S1 w':=hI
 refine aG hl bF ?_
 refine Run.callL bz bA hI (cA (n:=l.length) (hrd.monoU hE1.1) (by omega) (by omega)) rfl fun v' I' S1 w'=>?_
 rintro ⟨rfl,rfl,k,hk,rfl⟩ _ hI
 have hI:Inv w [br] [rdI br sl (p+1)] S1 w':=hI
 refine ⟨fun t w'=>∃ k p1:Nat,t=.int .i64 (k:Int)/\k<7/\p1<=p+3/\Inv w [br] [rdI br sl p1] S1 w',?_,?_⟩
 ·refine Run.callL bz bA hI (cA (n:=3) (hrd.monoU hE1.1) (by omega) (by omega)) rfl fun v' I' S1 w'=>?_
  rintro ⟨rfl,rfl,k2,hk2,rfl⟩ _ hI
  have hI:Inv w [br] [rdI br sl (p+2)] S1 w':=hI
  refine dB ?_
  refine aI (fun _=>?_) (fun _=>⟨k,p+2,rfl,by omega,by omega,hI⟩)
  refine Run.callL bz bA hI (cA (n:=4) (hrd.monoU hE1.1) (by omega) (by omega)) rfl fun v' I' S1 w'=>?_
  rintro ⟨rfl,rfl,k3,hk3,rfl⟩ _ hI
  exact ⟨k3,p+3,rfl,by omega,by omega,hI⟩
 intro t4 _ _ _ _ _ w'
 rintro ⟨k,p1,rfl,hk7,hp1,hI⟩
 refine Run.call0E qw qI hI (oN S1) fun v' I' S2 w'=>?_
 rintro ⟨rfl,l,hl,hl7,hok⟩ hE2 hI
 have hk:k<l.length:=by omega
 refine iP hI hl bF aL hk (fun cs hcs=>hcs) ?_
 rw [List.all_eq_true] at hok
 refine Run.call0E jN jG hI (Ct (hok _ (List.getElem_mem hk))) fun v I' S3 w'=>?_
 rintro ⟨u,css,ps,rfl,rfl,hR,h0,hps,_⟩ hE3 hI
 have hI:Inv w [br] [aC u af 5 css,rdI br sl p1] S3 w':=hI.last 0 rfl
 obtain ⟨S4,hE4,hI,hr⟩:=nN hI hR
 refine al (v:=u) rfl ?_
 refine al (v:=.bool true) rfl ?_
 refine Run.call0E wR xd hI (uL S4) fun v' I' S5 w'=>?_
 rintro ⟨rfl,l2,hl2,hl27,hokq⟩ hE5 hI
 have hk2:k<l2.length:=by omega
 refine iP hI hl2 bF aL hk2 (fun cs hcs=>hcs) ?_
 rw [List.all_eq_true] at hokq
 refine Run.call0E xG wU hI (uu (hokq _ (List.getElem_mem hk2))) fun v I' S6 w'=>?_
 rintro ⟨rfl,g,q,rfl,hg,hlq⟩ hE6 hI
 have hI:Inv w [br] [rdI br sl p1] S6 w':=by simpa using hI
 refine al (v:=g) rfl ?_
 refine al (v:=.bool true) rfl ?_
 exact ⟨_,_,S6,rfl,hI,hE1.trans (hE2.trans (hE3.trans (hE4.trans (hE5.trans hE6)))),p1,hp1,rfl,u,g,ps,q,rfl,hr.monoC (hE5.trans hE6).1,hps,h0,hg,hlq⟩
abbrev K2 (v':Value) (I':List Item) (S':ad):Prop:=I'=[]/\∃ u q i,v'=.tuple #[u,.int .i64 i]/\(-1000<=i/\i<=1000)/\RdSl S' 5 (RdC S') u q/\Light 30 900 q
theorem mx {v:Value} (h:RdSl S 1 jy v ys):Tri Tryz.prog oy [v] [] S K2:=by
 intro w hI
 refine gz.2 ?_
 dsimp only[gz,aD]
 refine Run.call0E Es Ef hI (Is h) fun v1 I' S1 w'=>?_
 rintro ⟨rfl,br,sl,ys',rfl,rfl,hrd⟩ _ hI
 have hI:Inv w [] [rdI br sl 0] S1 w':=hI
 refine Run.callL Da Dg hI (Aw (p:=0) hrd (by omega)) rfl fun v2 I' S2 w'=>?_
 rintro ⟨p1,hp1,rfl,u,g,ps,q,rfl,hps,hlp,h0,hq,hlq⟩ hE2 hI
 have hI:Inv w [] [rdI br sl p1] S2 w':=hI
 refine al (v:=u) rfl ?_
 refine al (v:=g) rfl ?_
 refine ⟨fun t w'=>∃ (p2:Nat) (S3:ad) (q:List C),p2<=100000/\Ext w.heap.size [] S1 S3/\RdSl S3 5 (RdC S3) t q/\Light 30 900 q/\Inv w [] [rdI br sl p2] S3 w',?_,?_⟩
 ·refine Run.callL bz bA hI (cA (n:=6) (hrd.monoU hE2.1) (by omega) (by omega)) rfl fun v' I' S2 w'=>?_
  rintro ⟨rfl,rfl,k,hk,rfl⟩ _ hI
  refine aZ ?_
  refine aI (fun _=>?_) (fun _=>⟨p1+1,_,ps,by omega,hE2,hps,⟨by have:=hlp.1; omega,fun c hc=>by have:=hlp.2 c hc; omega⟩,hI⟩)
  refine Run.callL z6 y7 hI (xp (p:=p1+1) (hrd.monoU hE2.1) (by omega)) rfl fun v1 I' S3 w'=>?_
  rintro ⟨p2,css1,q1,hp2,rfl,hR1,hq1,h1,_⟩ hE3 hI
  obtain ⟨S4,hE4,hI,hr⟩:=nN (A:=[rdI br sl p2]) hI hR1
  have hE4:=(hE2.trans hE3).trans hE4
  refine Run.callL uO ux hI (rM (m:=200) (p:=p2) (hrd.monoU hE4.1) hr ⟨by have:=hq1.1; omega,hq1.2⟩ h1 (by omega) (by omega)) rfl fun v3 I' S5 w'=>?_
  rintro ⟨p3,hp3,rfl,q2,hr2,hq2⟩ hE5 hI
  exact ⟨p3,S5,q2,by omega,hE4.trans hE5,hr2,hq2,hI⟩
 intro t5 _ _ _ _ _ _ _ w'
 rintro ⟨p2,S3,q3,hp2,hE3,hr,hl,hI⟩
 refine Run.callL bz bA hI (cA (n:=3) (hrd.monoU hE3.1) (by omega) (by omega)) rfl fun v' I' S3 w'=>?_
 rintro ⟨rfl,rfl,k,hk,rfl⟩ _ hI
 refine dB ?_
 refine aI (fun _=>?_) (fun _=>?_)
 ·exact ⟨_,[],S3,rfl,hI.nil,hE3,rfl,_,q3,0,rfl,by omega,hr,hl⟩
 ·refine uJ hI (by kernel_rfl) rfl (by omega) fun v S4 w' hE4 hv hI=>?_
  refine Run.callL dR dN hI (iZ (p:=p2+1) (hrd.monoU (hE3.trans hE4).1) hv (by decide) (by omega)) rfl fun v' I' S4 w'=>?_
  rintro ⟨rfl,rfl,m,hm,rfl⟩ _ hI
  have hm:=pz (a:=-1000) (b:=1000) hm (by decide)
  exact ⟨_,[],S4,rfl,hI.nil,hE3.trans hE4,rfl,_,q3,m,rfl,hm,hr.monoC hE4.1,hl⟩
end
end
section
open Go Go.RowKit
section
variable {w w0:World} {X:List Nat} {L A:List Item} {S:ad} {K:Value->World->Prop}
attribute [local irreducible] Run CondV ai az
end
end
section
open Go Go.RowKit
section
variable {w0 w:World} {X:List Nat} {L:List Item} {S:ad} {K:Value->World->Prop} {ys:List Nat} {v:Value}
attribute [local irreducible] Run CondV ai az
theorem Light.fit {q:List C} (h:Light 30 900 q):q.length+wP q<=1048576:=by
 have:=h.le; omega
theorem Run.pubCB {f:FuncId} {fn:Func} {args:List Value} {l:List C} {b:Bool} (hf:Tryz.prog.funcs[f]?=some fn) (hn:(fn.name == "runtime.NumGoroutine" || fn.body.isNone)=false) (hI:Inv w0 X L S w)
  (hc:Tri Tryz.prog f args [] S (IJ S l b)) (hk:∀ u S' w',Ext w0.heap.size X S S'->RdSl S' 5 (RdC S') u l->Inv w0 X L S' w'->K (.tuple #[u,.bool b]) w'):Run Tryz.prog (dy (.func (.func f) #[] #[]) args) w K:=by
 refine Run.call0E hf hn hI hc fun v' I' S' w'=>?_
 rintro ⟨rfl,u,M,rfl,rfl,hT⟩ _ hI
 obtain ⟨S1,hI,hE,hins⟩:=hI.pubExt
 exact hk u S1 w' hE (hT.rd hins fun _ _ _ hi h=>h.rd hi) hI
end
end
section
open Go Go.RowKit
section
variable {w:World} {K:Value->World->Prop}
attribute [local irreducible] Run
theorem Hg {sb:Nat} {p1 p2:Option Addr} {n1 n2 m1 m2:Nat} {fuel:Int} {b:Bool}
  (hk:K (.agg #[.pointer (some ⟨sb,0,none⟩),.slice p1 n1 m1,.slice p2 n2 m2,.bool b,.bool false,.int .i64 fuel,.int .i64 0,.int .i64 26,.pointer none,.slice none 0 0,.slice none 0 0,.int .i64 0]) w) :
  Run Tryz.prog (bJ k0 [(0,.pointer (some ⟨sb,0,none⟩)),(1,.slice p1 n1 m1),(2,.slice p2 n2 m2),(5,.int .i64 fuel),(3,.bool b),(7,.int .i64 26)]) w K:=by
 refine Run.of (v:=.agg #[.pointer (some ⟨sb,0,none⟩),.slice p1 n1 m1,.slice p2 n2 m2,.bool b,.bool false,.int .i64 fuel,.int .i64 0,.int .i64 26,.pointer none,.slice none 0 0,.slice none 0 0,.int .i64 0]) (w':=w) ?_ hk
 unfold bJ
 rw [Sem.run_bind,run_build w k0 _ #[.pointer (some ⟨sb,0,none⟩),.slice p1 n1 m1,.slice p2 n2 m2,.bool b,.bool false,.int .i64 fuel,.int .i64 0,.int .i64 26,.pointer none,.slice none 0 0,.slice none 0 0,.int .i64 0] (by kernel_rfl),Result.andThen_ok]
 rfl
end
section
attribute [local irreducible] Run CondV ai az
theorem Inv.rowLeM {w0 w:World} {X:List Nat} {L:List Item} {S:ad} (h:Inv w0 X L S w) {i k n:Nat} {e:TypeId} {v:Value} {xs:List Value} (hi:L[i]?=some (.row v e k n xs)):n<=maxLen:=by
 have hm:w.ownsRow 0 e k v n xs:=h.its (.row v e k n xs) (List.mem_of_getElem? hi)
 rcases hm.2 with ⟨rfl,hn⟩|⟨g,cap,cur,rfl,_,_,hn,hc,_⟩
 ·rw [hn]; exact Nat.zero_le _
 ·exact Nat.le_trans hn hc
theorem xK {p:List C} {q:List T} {S:ad} {pv qv:Value} (h4:RdSl S 5 (RdC S) pv p) (hq:RdSl S 4 (RdT S) qv q) (fuel:Int) :
  Tri Tryz.prog AP [pv,qv,.int .i64 fuel,.bool false] [] S fun x I' S'=>∃ sp sb mb gv,x=.pointer (some ⟨sp,0,none⟩)/\GL S' gv (fg q).goals/\
   I'=ow sp sb mb pv qv false fuel 0 26 gv (.slice none 0 0) [] (.slice none 0 0) [] 0 #[] 0 (.slice none 0 0) []:=by
 intro w hI
 obtain ⟨pa,pcap,rfl,-⟩:=id h4
 obtain ⟨qa,qcap,rfl,-⟩:=id hq
 refine pj.2 ?_
 dsimp only[pj,iB]
 refine Run.call0 Ay AE hI (zA S) fun v' I' S' w'=>?_
 rintro ⟨rfl,sb,mb,rfl,rfl⟩ _ hI
 refine Hg ?_
 refine bt hI fun sp w' hI=>?_
 refine Run.call0E F5 FW hI (Cj (cut:=0) (up:=-1) hq GL.nil) fun v' I' S1 w'=>?_
 rintro ⟨rfl,hG⟩ hE1 hI
 have hI:=hI.sub (List.sublist_append_left _ _)
 obtain ⟨gp,rfl⟩:=hG.ptr
 refine ao ?_
 refine cn hI 3 rfl eX cK rfl rfl rfl fun w' hI=>?_
 have hI:=(hI.rowNil cS 9).rowNil iI 6
 have hI:Inv w [] (aq sb mb #[] 0 (.slice none 0 0) []++[dM sp (cN sb (.slice pa p.length pcap) (.slice qa q.length qcap) false fuel 0 26 (.pointer gp) (.slice none 0 0) (.slice none 0 0) 0),chI (.slice none 0 0) [],noI (.slice none 0 0) []]) S1 w':=hI
 refine ⟨_,_,S1,rfl,hI.perm (List.perm_append_comm (l₂:=aq sb mb #[] 0 (.slice none 0 0) [])),hE1,sp,sb,mb,.pointer gp,rfl,?_,rfl⟩
 rw [List.append_nil] at hG
 exact hG
theorem zo {p:List C} {q:List T} {S:ad} {pv qv:Value} (h4:RdSl S 5 (RdC S) pv p) (hq:RdSl S 4 (RdT S) qv q) {most fuel:Nat} (hm:most<=20) (hf:fuel<=300) :
  Pure Tryz.prog CR [pv,qv,.int .i64 (most:Int),.int .i64 (fuel:Int)] S (.bool (co p && cQ q)):=by
 intro w hI
 refine qb.2 ?_
 dsimp only[qb,iB]
 refine Run.callPure gi fT hI (fi h4) fun w' hI=>?_
 have e1:(decide ((0:Int)<=(most:Int)) && decide ((most:Int)<=20))=true:=by simp; omega
 have e2:(decide ((0:Int)<=(fuel:Int)) && decide ((fuel:Int)<=300))=true:=by simp; omega
 cases hp:co p
 ·refine rpG ?_
  exact done hI rfl
 ·refine rpG ?_
  refine Run.callPure xl xt hI (sk hq) fun w' hI=>?_
  cases hqv:cQ q
  ·refine rpG ?_
   exact done hI rfl
  ·refine rpG ?_
   refine Run.callPure dT dX hI (dF _ _ _ S) fun w' hI=>?_
   rw [e1]
   refine rpG ?_
   refine Run.callPure dT dX hI (dF _ _ _ S) fun w' hI=>?_
   rw [e2]
   refine rpG ?_
   exact done hI rfl
set_option maxHeartbeats 2000000 in
theorem FL {p:List C} {q:List T} {S:ad} {pv qv:Value} (h4:RdSl S 5 (RdC S) pv p) (hq:RdSl S 4 (RdT S) qv q) {most fuel:Nat} (hm:most<=20) (hf:fuel<=300) {r:List (List T) × Int} (hr:SolR p q most fuel r) :
  Tri Tryz.prog KT [pv,qv,.int .i64 (most:Int),.int .i64 (fuel:Int),.bool false] [] S fun x I' S'=>I'=[]/\∃ v,x=.tuple #[v,.int .i64 r.2]/\RdSl S' 1 (RdAns S') v r.1:=by
 intro w hI
 refine zk.2 ?_
 dsimp only[zk,CL]
 refine Run.callPure AQ Bl hI (zo h4 hq hm hf) fun w' hI=>?_
 refine bK ?_
 rcases hr with ⟨hb,hr⟩|⟨hb,rfl⟩
 ·rw [hb]
  refine aw (fun h=>by cases h) (fun _=>?_)
  have hb':=hb
  rw [Bool.and_eq_true] at hb'
  obtain ⟨f1,f2,f3⟩:=gG hb'.1
  obtain ⟨g1,g2,g3⟩:=zG hb'.2
  refine Run.call0E yS zQ hI (xK h4 hq fuel) fun v' I' S1 w'=>?_
  rintro ⟨sp,sb,mb,gv,rfl,hG,rfl⟩ hE1 hI
  have hso:=kR hb'.2 p.length
  have hsl:(fg q).st.length=26:=by show (List.replicate 26 (none:Option T)).length=26; simp
  have hK:SeaK S1 (fg q).chs (fg q).nodes (fg q).st [] [] #[] [] []:=by
   refine ⟨KnownM.none S1 26,Rows.nil _ _,Rows.nil _ _,.nil,?_⟩
   show ([]:List Int).length+unb (List.replicate 26 none)<=(List.replicate 26 (none:Option T)).length
   rw [Af]
   simp
  have hmul:26 * p.length * (fuel+1)<=520 * 301:=Nat.mul_le_mul (by omega) (by omega)
  have hRK:PD p fuel (fg q):=by
   refine ⟨hso,by omega,?_,?_,?_⟩
   ·rw [hsl]
    show 26+26 * 0+_<=_
    omega
   ·show 0+fuel<=_
    omega
   ·show 0+fuel<=_
    omega
  refine Run.callE (A:=[]) xI xj hI (by
   have:=KM f1 f2 (by omega) (by omega) hr hRK g1 g2 (by omega) (fuel:=fuel) (used:=0) (Int.le_refl _) (by omega) (by omega) (h4.monoC hE1.1) (hq.monoT hE1.1) hG hK (sp:=sp) (sb:=sb) (mb:=mb) (ck:=0) (mo:=0) (cv:=.slice none 0 0) (nv:=.slice none 0 0) (tv:=.slice none 0 0)
   rw [hsl] at this
   exact this) fun v' I' S2 w'=>?_
  rintro ⟨v,css,rfl,rfl,hR⟩ hE2 hI
  have hsm:=hr.small f1 g1 g2 hso (by omega) (by simp)
  refine al rfl ?_
  refine al rfl ?_
  refine gZ hI 0 rfl fH ?_
  have hcl:=hR.hc
  have hE12:=hE1.trans hE2
  have hI:Inv w [] [aC v dv 1 css] S2 w':=hI
  refine ⟨fun i w'=>∃ (k:Nat) (css':List (List Value)) (S3:ad),k<=css.length/\i=.int .i64 (k:Int)/\css'.length=css.length/\Ext w.heap.size [] S2 S3/\Rows 1 (RdAns S3) css' r.1/\Inv w [] [.row v dv 1 css.length css'.flatten] S3 w',
   fun i _=>css.length - (intOf i).toNat,⟨0,css,S2,Nat.zero_le _,rfl,rfl,Ext.refl _ _ _,hR,hI⟩,?_⟩
  clear hI
  intro ii _ _ _ _ _ _ _ _ _ _ _ _ _ _ w'
  rintro ⟨k,css',S3,hk,rfl,hll,hE3,hR3,hI⟩
  refine bI ?_
  refine aI (fun hki=>?_) (fun hki=>?_)
  ·have hk':k<css'.length:=by omega
   have hkr:k<r.1.length:=by omega
   have hle:=hI.rowLeM (i:=0) rfl
   simp only [maxLen] at hle
   rw [<- hll] at hI
   obtain ⟨u,hu,hus⟩:=hR3.hR k hkr hk'
   obtain ⟨g,cap,hv,hcell⟩:=hI.rowPtr (i:=0) rfl hk' hR3.hk
   subst hv
   obtain ⟨ua,ucap,rfl,-⟩:=id hus
   have hans:=hsm _ (List.getElem_mem hkr)
   refine aH fH hk' ?_
   refine b0 (cs:=[.slice ua r.1[k].length ucap]) yr rfl (fun j x hj=>by
    rw [Nat.zero_add]
    exact hcell j x (by rw [hu]; exact hj)) ?_
   refine aM hI HO fun b15 w' hI=>?_
   refine av hI 1 rfl yr rfl rfl (by simp [Value.oneCell']) fun w' hI=>?_
   refine ae hI 1 rfl r3 aj rfl ?_
   have hI:Inv w [] [aC (.slice (some ⟨g,0,none⟩) css'.length cap) dv 1 css'] S3 _:=hI.sub (List.sublist_append_left [_] [_])
   refine Run.call0E lP l7 hI (qz hus hans) fun v' I' S5 w'=>?_
   rintro ⟨rfl,M,rfl,hT⟩ hE5 hI5
   obtain ⟨S9,hI9,hE9,hins⟩:=Inv.pubExt hI5
   have hn:=hT.rd hins fun _ _ _ hi h=>h.rd hi
   obtain ⟨na,ncap,rfl,-⟩:=id hn
   refine aH fH hk' ?_
   refine aB r3 ?_
   refine yZ hI9 0 (j:=k) (f:=0) rfl aj hk' (by omega) (by omega) hR3.hk rfl rfl fun w' hI=>?_
   have hE59:=hE5.trans hE9
   refine bq (by omega) ?_
   refine ⟨⟨k+1,css'.set k (css'[k].set 0 (.slice na r.1[k].length ncap)),S9,by omega,rfl,by rw [List.length_set,hll],hE3.trans hE59,?_,?_⟩,by simp only [intOf,Int.toNat_natCast]; omega⟩
   ·have h9:=(hR3.monoR fun _ _=>RdAns.mono hE59.1).set k (cs:=css'[k].set 0 (.slice na r.1[k].length ncap)) (y:=r.1[k]) ⟨_,by rw [hu]; rfl,hn⟩ (by rw [hu]; rfl)
    rwa [List.set_getElem_self] at h9
   ·have hI:Inv w [] [aC (.slice (some ⟨g,0,none⟩) css'.length cap) dv 1 (css'.set k (css'[k].set 0 (.slice na r.1[k].length ncap)))] S9 _:=hI
    rw [aC,List.length_set] at hI
    rw [<- hll]
    exact hI
  ·rw [<- hll] at hI
   have hI:Inv w [] ([]++[aC v dv 1 css']) S3 _:=hI
   obtain ⟨S4,hE4,hrd,hI⟩:=hI.lendExt
   exact ⟨_,_,S4,rfl,hI,(hE12.trans hE3).trans hE4,rfl,v,rfl,RowRd.rows (hR3.monoR fun _ _=>RdAns.mono hE4.1) hrd⟩
 ·rw [hb]
  refine aw (fun _=>?_) (fun h=>by cases h)
  exact ⟨_,_,S,rfl,hI,Ext.refl _ _ _,rfl,_,rfl,none,0,rfl,Nat.le_refl _,Nat.zero_le _,.inl rfl⟩
theorem vH {p:List C} {q:List T} {S:ad} {pv qv:Value} (h4:RdSl S 5 (RdC S) pv p) (hq:RdSl S 4 (RdT S) qv q) {most fuel:Nat} (hm:most<=20) (hf:fuel<=300) {r:List (List T) × Int} (hr:SolR p q most fuel r) :
  Tri Tryz.prog Ku [pv,qv,.int .i64 (most:Int),.int .i64 (fuel:Int)] [] S fun x I' S'=>I'=[]/\∃ v,x=.tuple #[v,.int .i64 r.2]/\RdSl S' 1 (RdAns S') v r.1:=by
 intro w hI
 refine yl.2 ?_
 dsimp only[yl,iB]
 refine Run.call0E Hj Hr hI (FL h4 hq hm hf hr) fun v' I' S1 w'=>?_
 rintro ⟨rfl,v,rfl,hR⟩ hE1 hI
 refine al rfl ?_
 refine al rfl ?_
 exact ⟨_,_,S1,rfl,hI,hE1,rfl,v,rfl,hR⟩
end
end
section
open Go Go.RowKit
section
variable {S:ad} {ys:List Nat} {v:Value}
attribute [local irreducible] Run CondV ai az
theorem oW (h:RdSl S 1 jy v ys):Tri Tryz.prog rg [v] [] S K2:=by
 intro w hI
 refine iG.2 ?_
 dsimp only[iG,aD]
 refine Run.call0E nz nw hI (mx h) fun v1 I' S1 w'=>?_
 rintro ⟨rfl,u,q,i,rfl,h1,h2,h3⟩ hE1 hI
 refine al (v:=u) rfl ?_
 refine al (v:=.int .i64 i) rfl ?_
 exact ⟨_,_,S1,rfl,hI,hE1,rfl,u,q,i,rfl,h1,h2,h3⟩
theorem z8 {v2:Value} {zs:List Nat} (h:RdSl S 1 jy v ys) (h2:RdSl S 1 jy v2 zs):Pure Tryz.prog bQ [v,v2] S (.bool true):=by
 intro w hI
 have hzl:=h2.le
 simp only [maxLen] at hzl
 refine kr.2 ?_
 dsimp only[kr,aX]
 refine ⟨fun q w'=>∃ b,q=.bool b/\Inv w [] [] S w',?_,?_⟩
 ·refine aG h cM ?_
  refine dB ?_
  cases hd:decide ((ys.length:Int) > 1048576)
  ·refine rpG ?_
   refine aG h2 cM ?_
   refine dB ?_
   refine rpG ?_
   exact ⟨_,rfl,hI⟩
  ·refine rpG ?_
   exact ⟨_,rfl,hI⟩
 intro q _ _ _ _ _ _ _ w'
 rintro ⟨b,rfl,hI⟩
 refine aw (fun _=>done hI rfl) (fun _=>?_)
 refine Run.call0E pV pW hI (oW h) fun v1 I' S1 w'=>?_
 rintro ⟨rfl,u,p,i,rfl,hi,hp,hlp⟩ hE1 hI
 have hI:Inv w [] [] S1 w':=hI
 have hlp0:=hlp.1
 have hwp:p.length+wP p<=1048576:=by have:=hlp.le; omega
 obtain ⟨ua,uc,rfl,_⟩:=id hp
 refine al (v:=.slice ua p.length uc) rfl ?_
 refine al (v:=.int .i64 i) rfl ?_
 refine Run.pubCB xu xc hI (ri i hp hwp) fun d S2 w' hE2 hd hI=>?_
 have hp:=hp.monoC hE2.1
 refine al (v:=d) rfl ?_
 refine al (v:=.bool (gw p i)) rfl ?_
 refine Run.pubCB xm xJ hI (rt i hp hwp) fun t S3 w' hE3 ht hI=>?_
 have hp:=hp.monoC hE3.1
 have hd:=hd.monoC hE3.1
 have hE13:=(hE1.trans hE2).trans hE3
 obtain ⟨da,dc,rfl,_⟩:=id hd
 refine al (v:=t) rfl ?_
 refine al (v:=.bool (gw p i)) rfl ?_
 refine ⟨fun t w'=>t=.bool (!gw p i)/\Inv w [] [] S3 w',?_,?_⟩
 ·refine MO xN ?_
  rw [beq_self_eq_true]
  refine rpG ?_
  refine Run.callPure nH oj hI (mK hd ht) fun w' hI=>?_
  refine bK ?_
  refine rpG ?_
  refine bK ?_
  refine rpG ?_
  exact ⟨rfl,hI⟩
 intro q _ _ _ _ _ _ _ _ _ _ _ _ w'
 rintro ⟨rfl,hI⟩
 refine aw (fun _=>?_) (fun hb=>?_)
 ·refine PN xN ?_
  rw [beq_self_eq_true]
  refine rpG ?_
  refine Run.callPure nH oj hI (mK hd ht) fun w' hI=>?_
  refine rpG ?_
  exact gh hI hE13.1 rfl
 have hdb:gw p i=true:=by simpa using hb
 have hdb':=hdb
 rw [gw,Bool.and_eq_true,Bool.and_eq_true,decide_eq_true_eq,decide_eq_true_eq] at hdb'
 obtain ⟨hpv,hi0,hi1⟩:=hdb'
 have hp0:0<p.length:=by omega
 have hde:lQ p i=p.eraseIdx i.toNat:=by rw [lQ,if_pos hdb]
 obtain ⟨k,hk⟩:∃ k:Nat,k=zs.length % p.length:=⟨_,rfl⟩
 have hkp:k<p.length:=by
  rw [hk]
  exact Nat.mod_lt _ hp0
 refine aG h2 cM ?_
 refine ez aP ?_
 refine ML (by omega) ?_
 rw [show (zs.length:Int).tmod (p.length:Int)=(k:Int) by rw [hk]; rfl]
 obtain ⟨pb,po,pc2,pc,pE,pfz,hpve,hpS,hpR⟩:=hp.at_ hkp
 have hpa:ua=some ⟨pb,po,none⟩:=by
  simp only [Value.slice.injEq] at hpve
  exact hpve.1
 have hix:∀ {ty:TypeId} {K:Value->World->Prop} {w':World},K (.pointer (some ⟨pb,po+k * 5,none⟩)) w'->Run Tryz.prog (sOp (.indexAddr Hb (.const (.slice ua p.length uc)) (.const (.int .i64 (k:Int)))) ty) w' K:=fun hk=>by rw [hpa]; exact aH aP hkp hk
 obtain ⟨hv1,hb1,hce,hh,hb⟩:=hpR.cells
 refine hix ?_
 refine aB bM ?_
 refine b0 ac (cs:=[.int .i64 p[k].head.kind,.int .i64 p[k].head.n,.string p[k].head.name,hv1]) rfl (fun j v hj=>by
  rw [hI.cellS hpS,Nat.add_zero]
  refine aO hce j v ?_
  have:j<4:=by have:=(List.getElem?_eq_some_iff.1 hj).1; simpa using this
  match j,this,hj with
  | 0,_,hj=>exact hj
  | 1,_,hj=>exact hj
  | 2,_,hj=>exact hj
  | 3,_,hj=>exact hj) ?_
 refine QN hI hh fun qv S4 w' hE4 hq hI=>?_
 have hpm:=List.getElem_mem hkp
 have hgh:df p[k].head=true:=by
  have h3:=Ge hpv hpm
  rw [df,GJ h3,mw hpv hpm]
  simp
 obtain ⟨r,hr⟩:=SolR.ex p [p[k].head] 20 300
 obtain ⟨r',hr'⟩:=SolR.ex (lQ p i) [p[k].head] 20 300
 refine Run.call0E ya yp hI (vH (most:=20) (fuel:=300) (hp.monoC hE4.1) hq (by omega) (by omega) hr) fun t I' S5 w'=>?_
 rintro ⟨rfl,v1,rfl,hv1'⟩ hE5 hI
 refine al (v:=v1) rfl ?_
 refine al (v:=.int .i64 r.2) rfl ?_
 have hE45:=hE4.trans hE5
 refine Run.call0E ya yp hI (vH (most:=20) (fuel:=300) (hd.monoC hE45.1) (hq.monoT hE5.1) (by omega) (by omega) hr') fun t I' S6 w'=>?_
 rintro ⟨rfl,v2,rfl,hv2'⟩ hE6 hI
 refine al (v:=v2) rfl ?_
 refine al (v:=.int .i64 r'.2) rfl ?_
 have hE46:=hE45.trans hE6
 have hle:=(hE13.trans hE46).1
 have hp6:=hp.monoC hE46.1
 have hv1':RdSl S6 1 (RdAns S6) v1 r.1:=hv1'.mono hE6.1 fun _ _=>RdAns.mono hE6.1
 refine ⟨fun t w'=>t=.bool (!zq p || (!decide (r.2=0) || !decide (r'.2=0)))/\Inv w [] [] S6 w',?_,?_⟩
 ·refine Run.callPure uB ve hI (Bd hp6) fun w' hI=>?_
  refine bK ?_
  cases hpu:zq p
  ·refine rpG ?_
   exact ⟨rfl,hI⟩
  ·refine rpG ?_
   refine fP ?_
   cases h0:decide (r.2=0)
   ·refine rpG ?_
    exact ⟨rfl,hI⟩
   ·refine rpG ?_
    refine fP ?_
    refine rpG ?_
    exact ⟨rfl,hI⟩
 intro q _ _ _ _ _ _ _ _ _ _ w'
 rintro ⟨rfl,hI⟩
 refine aw (fun _=>?_) (fun hb=>?_)
 ·have hdl:(lQ p i).length=p.length - 1:=by rw [hde,List.length_eraseIdx,if_pos (by omega)]
  refine ez aP ?_
  refine ez aP ?_
  refine iw (by omega) ?_
  refine aZ ?_
  exact gh hI hle (by rw [decide_eq_true (by omega)])
 ·simp only [Bool.or_eq_false_iff,Bool.not_eq_false',decide_eq_true_eq] at hb
  obtain ⟨hpu,e1,e2⟩:=hb
  have hfew:=SolR.fewer hpu (d:=lQ p i) (by rw [hde]; exact List.eraseIdx_sublist _ _) (fun t ht=>by
   rw [List.mem_singleton.1 ht]
   exact ⟨by rw [dx,mw hpv hpm]; rfl,gQ hgh,(pK (mw hpv hpm) rfl).1⟩) hr hr' e1 e2
  refine aG hv2' fH ?_
  refine aG hv1' fH ?_
  refine dO ?_
  exact gh hI hle (by rw [decide_eq_true (by omega)])
end
end
section
open Go Go.ChangeShapes Go.WideShapes Go.RowKit
def JV:List (String × DataW Unit):=[("math/bits.deBruijn32tab",Rows.laid_math_bits_deBruijn32tab),("math/bits.deBruijn64tab",Rows.laid_math_bits_deBruijn64tab),("internal/strconv.uint64pow10",Rows.laid_internal_strconv_uint64pow10)]
theorem Mo (os:Os) (args:Array Value):laidMetH Tryz.prog JV ((World.doorLaid Tryz.prog 24 os).forCall (fun _ _=>0) ⟨#[],args,[]⟩).memory:=
 laidMetH_of_parts3 (fuel:=8) (laidMet_of_run' 8 (by kernel_rfl) (by kernel_rfl)) (by kernel_rfl) (by kernel_rfl)
end
section
open Go Go.ChangeShapes Go.WideShapes Go.ChangeAt Go.RowKit

theorem Tryz.own:ownKnob Tryz.prog.godebug=none:=by kernel_rfl
theorem Tryz.kids:Kids Tryz.prog (·<Tryz.prog.types.size):=kids_rows (by kernel_rfl) (by kernel_rfl)
theorem Tryz.full:∀ t e,t<Tryz.prog.types.size->Tryz.prog.underlying t=some (.slice e)->0<Tryz.prog.cellsOf e:=slices_full_of Tryz.prog (by kernel_rfl)
section
variable {H:Type} {enc:TypeId × Value->H} {W W':World}
theorem Gi {P:Program}:∀ {ts:List TypeId} {vs:List Value} {ds:List (DataW H)} {ps:List MemPlace},DataW.TrodAll enc P W 0 (fun _=>true) true ts vs ds ps->(∀ p∈ps,W.sameAt W' p)->
  DataW.TrodAll enc P W' 0 (fun _=>true) true ts vs ds ps
 | [],[],[],_,h,_=>h
 | _::_,_::_,_::_,_,⟨p,q,⟨n,h1⟩,h2,e⟩,hs=>
  ⟨p,q,⟨n,DataW.trod_carry n _ _ _ h1 fun x hx=>hs x (by rw [e]; exact List.mem_append_left _ hx)⟩,Gi h2 fun x hx=>hs x (by rw [e]; exact List.mem_append_right _ hx),e⟩
theorem Oe {p:MemPlace} (h:∀ b,b<W.heap.size->W'.heap[b]?=W.heap[b]?) (hp:p.block<W.heap.size):W.sameAt W' p:=by
 cases p with
 | cell b off=>simp only [World.sameAt,World.cell?]; rw [h b hp]
 | map b=>exact h b hp
theorem Kc {f:Func} {s:ChangeSpec} {args:Array Value} {ds gs:List (DataW H)} {before p q:List MemPlace}
  (hW:DataW.Whole enc Tryz.prog f.params.toList s.vars false W args.toList ds gs before) (hA:DataW.TrodAll enc Tryz.prog W 0 (fun _=>true) true f.params.toList args.toList ds p)
  (hV:DataW.TrodVars enc Tryz.prog W (fun _=>true) s.vars gs q) (hb:before=p++q) (hv:s.vars=[]) (hts:∀ t∈f.params.toList,t<Tryz.prog.types.size) (hr:f.resultTypes=#[G8])
  (hs:(s.fn H (ds++gs)).results=[.lit (.bool true)]) (ha:(s.fn H (ds++gs)).args=ds) (hsv:(s.fn H (ds++gs)).vars=[]) (hI:Inv W [] [] (Ju W) W') :
  s.post enc Tryz.prog f false true false false W args (.bool true) W':=by
 have hsame:∀ b,b<W.heap.size->W'.heap[b]?=W.heap[b]?:=fun b hb=>hI.same b hb
 have hlt:=hW.lt
 rw [hv] at hV
 obtain ⟨hg,hq⟩:=trodVars_none hV
 subst hq
 rw [List.append_nil] at hb
 subst hb
 have hA':=Gi (W':=W') hA fun x hx=>Oe hsame (hlt x hx)
 refine ⟨ds,gs,before,[],before,[],hW,?_,?_,?_,KV hI.os hI.output hsame,fun h=>by cases h⟩
 ·rw [hs,hr]
  exact trodAll_mk1 (shut_bool xN true)
 ·rw [ha]
  exact DataW.TrodAll.respare Tryz.kids Tryz.full hts hA' fun x hx=>by simpa using hlt x hx
 ·rw [hv,hsv]
  rfl
end
end
end Go.Proofs.YtgllldjiaglkcaaGreatDoor
