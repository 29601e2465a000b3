/- spec.l13First. -/
import Derived.Test.YtgllldjiaglkcaaGreatDoorZUf28
import Derived.Test.YtgllldjiaglkcaaGreatDoorZUf27
import Derived.Test.YtgllldjiaglkcaaGreatDoorTie
import Derived.LaidMore
import Derived.LaidLaws
namespace Go.Proofs.YtgllldjiaglkcaaGreatDoor
section
open Go Go.RowKit
theorem TryL.left {p:List C} {chs:List Ch} {c:Ch} {l:List Int} {o:Option St6} (h:TryL p chs c l o) (g:List Int):TryL p chs ⟨c.goal,c.rest,g,c.binds⟩ l o:=by
 induction h with
 | nil=>exact .nil
 | hit a f=>exact .hit (c:=⟨c.goal,c.rest,g,c.binds⟩) a f
 | miss a f _ i=>exact .miss a f i
theorem FirstL.inv {p:List C} {chs:List Ch} {c:Ch} {x:Int} {l:List Int} {o:Option (St6 × Int × List Int)} (h:FirstL p chs c (x::l) o) :
  ∃ a,TryL p chs c [x] a/\((∃ s,a=some s/\o=some (s,x,l)) ∨ (a=none/\FirstL p chs c l o)):=by
 cases h with
 | hit h=>exact ⟨_,h,.inl ⟨_,rfl,rfl⟩⟩
 | miss f g=>exact ⟨_,f,.inr ⟨rfl,g⟩⟩
section
variable {P:Program} {w w0:World} {X:List Nat} {L:List Item} {S:ae} {K:Value->World->Prop}
attribute [local irreducible] Run CondV aq aK
end
section
attribute [local irreducible] Run CondV aq aK
end
end
section
open Go Go.RowKit
def anP {α:Type} (w0:World) (X:List Nat) (A:List Item) (T:TypeId) (k:Nat) (R:ae->List Value->α->Prop) (xs:List α) (y:α) (S0:ae) (Tn:TypeId) (z:Array Value) (Q:ae->Value->Prop)
  (d5 db da ds:Bool) (v0 v1 v5 v2 vb x:Value) (w:World) (n:Nat):Prop:=
 ∃ S1 b q,Ext w0.heap.size X S0 S1/\(d5=true->RdSl S1 k (R S1) v5 [y])/\(db=true->Q S1 vb)/\(da=true->x=.pointer (some ⟨b,0,none⟩))/\(ds=true->da=true)/\(ds=false->q=z)/\(ds=true->Q S1 (.agg q))/\
  apC w0 X (A++cond da [.blk b (.cells q Tn)] []) T k R xs y S1 v0 v1 v2 w n
section
variable {α:Type} {P:Program} {w0 w:World} {X:List Nat} {A:List Item} {e:TypeId} {k:Nat} {R:ae->List Value->α->Prop} {xs:List α} {y:α} {S0:ae} {Tn:TypeId} {z:Array Value} {Q:ae->Value->Prop}
 {d5 db da ds:Bool} {v0 v1 v5 v2 vb x:Value} {n:Nat} {K:Value->World->Prop}
attribute [local irreducible] Run
theorem anP.mk {S:ae} (h:Inv w0 X A S w) (v0 v1 v5 v2 a x:Value):anP w0 X A e k R xs y S Tn z Q false false false false v0 v1 v5 v2 a x w 0:=
 ⟨S,0,z,Ext.refl _ _ _,fun h=>(by cases h),fun h=>(by cases h),fun h=>(by cases h),fun h=>(by cases h),fun _=>rfl,fun h=>(by cases h),by rw [cond_false,bV]; exact h⟩
theorem anP.inv (h:anP w0 X A e k R xs y S0 Tn z Q d5 db da ds v0 v1 v5 v2 vb x w n):∃ S1 B,Ext w0.heap.size X S0 S1/\Inv w0 X (A++B) S1 w:=by
 obtain ⟨S1,b,q,f,_,_,_,_,_,_,g⟩:=h;obtain ⟨B,a⟩:=g.inv;exact ⟨S1,_,f,by rw [dx] at a; exact a⟩
theorem anP.fin (h:anP w0 X A e k R xs y S0 Tn z Q d5 db true true v0 v1 v5 v2 vb x w 3):∃ S1 b q,Ext w0.heap.size X S0 S1/\x=.pointer (some ⟨b,0,none⟩)/\Q S1 (.agg q)/\Inv w0 X (A++[.blk b (.cells q Tn)]) S1 w:=by
 obtain ⟨S1,b,q,a,_,_,f,_,_,g,i⟩:=h;exact ⟨S1,b,q,a,f rfl,g rfl,i.2⟩
theorem anP.res (h:anP w0 X A e k R xs y S0 Tn z Q d5 db da ds v0 v1 v5 v2 vb x w 3):∃ a m,v2=.slice a (xs++[y]).length m:=by
 obtain ⟨S1,b,q,_,_,_,_,_,_,_,⟨a,m,rfl,_⟩,_⟩:=h;exact ⟨a,m,rfl⟩
theorem anP.val (h:anP w0 X A e k R xs y S0 Tn z Q d5 db da ds v0 v1 v5 v2 vb x w n) (hd:db=true):∃ S1,Q S1 vb:=by
 obtain ⟨S1,b,q,_,_,a,_⟩:=h;exact ⟨S1,a hd⟩
theorem anP.alloc {ty:TypeId} {l:Value} (hR:∀ S S' cs x,Sle S S'->R S cs x->R S' cs x) (h:anP w0 X A e k R xs y S0 Tn z Q d5 db da ds v0 v1 v5 v2 vb x w n) (hd:da=false) (o:iI P Tn=some l) (f:l.cells=z)
  (hk:∀ v w',anP w0 X A e k R xs y S0 Tn z Q d5 db true ds v0 v1 v5 v2 vb v w' n->K v w'):Run P (sOp (.alloc Tn) ty) w K:=by
 obtain ⟨S1,b,q,r,t,D,J,G,M,N,m⟩:=h;have i:ds=false:=bx.2 fun e=>by rw [G e] at hd; cases hd
 rw [hd,cond_false,bV] at m;obtain ⟨B,g,a⟩:=m.ex hR;refine aQ g o fun b w' g=>hk _ w' ⟨S1,b,z,r,t,D,fun _=>rfl,fun _=>rfl,fun _=>rfl,fun e=>(by rw [i] at e; cases e),?_⟩;rw [cond_true,<- f];refine a _ S1 w' (Sle.refl _) (g.perm ?_);rw [dx,dx];exact zL _ cj
theorem anP.store {ty:TypeId} {m:Nat} {cs:Array Value} (hR:∀ S S' cs x,Sle S S'->R S cs x->R S' cs x) (h:anP w0 X A e k R xs y S0 Tn z Q d5 db da ds v0 v1 v5 v2 vb x w n) (hd:da=true) (D:ds=false) (G:sk P Tn=some m) (hn:cs.size=m) (J:z.size=m)
  (g:∀ u∈cs.toList,u.oneCell'=true) (i:db=true) (l:vb=.agg cs)
  (hk:∀ w',anP w0 X A e k R xs y S0 Tn z Q d5 db da true v0 v1 v5 v2 vb x w' n->K undef w'):Run P (sOp (.store Tn (.const x) (.const (.agg cs))) ty) w K:=by
 obtain ⟨S1,b,q,M,N,o,r,V,O,Y,t⟩:=h;rw [hd,cond_true,O D] at t;rw [r hd];obtain ⟨B,f,a⟩:=t.ex hR;have U:(A++[Item.blk b (.cells z Tn)]++B)[A.length]?=some (.blk b (.cells z Tn)):=by simp
 refine au (E:=Tn) f A.length U G hn J g fun w' f=>?_;have e2:(A++[Item.blk b (.cells z Tn)]++B).set A.length (.blk b (.cells cs Tn))=A++[.blk b (.cells cs Tn)]++B:=by simp
 rw [e2] at f;refine hk w' ⟨S1,b,cs,M,N,o,r,fun _=>hd,fun e=>(by cases e),fun _=>l ▸ o i,?_⟩;rw [hd,cond_true];exact a _ S1 w' (Sle.refl _) f
end
end
section
open Go Go.RowKit
section
attribute [local irreducible] Run CondV aq aK
end
end
section
open Go Go.RowKit
theorem BackR.inv {p:List C} {cs:List Ch} {l:List (List Sp)} {o:Option Se} (h:BackR p cs l o) (g:cs≠[]):∃ a c f t i,cs=a++[c]/\l=f++[t]/\TakeR p ⟨⟨[],[],a⟩,t,f⟩ c i/\
  ((∃ s,i=some s/\o=some s) ∨ (i=none/\BackR p a f o)):=by
 cases h with
 | nil=>exact absurd rfl g
 | hit h=>exact ⟨_,_,_,_,_,rfl,rfl,h,.inl ⟨_,rfl,rfl⟩⟩
 | miss h m=>exact ⟨_,_,_,_,_,rfl,rfl,h,.inr ⟨rfl,m⟩⟩
theorem BackR.none {p:List C} {cs:List Ch} {f:List (List Sp)} {o:Option Se} (h:BackR p cs f o) (a:cs=[]):o=Option.none:=by
 cases h with
 | nil=>rfl
 | hit h=>simp at a
 | miss h g=>simp at a
section
attribute [local irreducible] Run CondV aq aK
end
end
section
open Go Go.RowKit
theorem OneR.inv {p:List C} {s r:Se} {e:Int} (h:OneR p s r e):∃ g rest u,s.st.goals=g::rest/\Res s.st.binds (.one g.1 u)/\
  (((bv u=false ∨ ez u=true)/\s=r/\e=0) ∨ (bv u=true/\ez u=false/\
   ((bU u=false/\∃ o,TakeR p s ⟨u,rest,eY p u,s.st.binds⟩ o/\((o=some r/\e=-1) ∨ (o=none/\s=r/\e=-2))) ∨
       (bU u=true/\∃ c st,Blt s.st.binds u c st/\((c=1/\s=r/\e=-2) ∨ (c≠0/\c≠1/\s=r/\e=0) ∨ (c=0/\r=⟨⟨rest,st,s.st.chs⟩,s.steps++[⟨u,-1,0⟩],s.saved⟩/\e=-1)))))):=by
 cases h with
 | big a f i=>exact ⟨_,_,_,a,f,.inl ⟨i,rfl,rfl⟩⟩
 | took a f i l m q=>exact ⟨_,_,_,a,f,.inr ⟨i,l,.inl ⟨m,_,q,.inl ⟨rfl,rfl⟩⟩⟩⟩
 | stuck a f i l m q=>exact ⟨_,_,_,a,f,.inr ⟨i,l,.inl ⟨m,_,q,.inr ⟨rfl,rfl,rfl⟩⟩⟩⟩
 | fail a f i l m q=>exact ⟨_,_,_,a,f,.inr ⟨i,l,.inr ⟨m,_,_,q,.inl ⟨rfl,rfl,rfl⟩⟩⟩⟩
 | err a f i l m q t B=>exact ⟨_,_,_,a,f,.inr ⟨i,l,.inr ⟨m,_,_,q,.inr (.inl ⟨t,B,rfl,rfl⟩)⟩⟩⟩
 | solved a f i l m q=>exact ⟨_,_,_,a,f,.inr ⟨i,l,.inr ⟨m,_,_,q,.inr (.inr ⟨rfl,rfl,rfl⟩)⟩⟩⟩
def PTk (s:Se) (o:Option Se) (S:ae) (v:Value):Prop:=∃ cs:List Value,v=.tuple #[.agg cs.toArray,.bool o.isSome]/\RdSe S cs (o.getD s)
theorem PTk.mono {s:Se} {o:Option Se} {S S':ae} {v:Value} (h:PTk s o S v) (a:Sle S S'):PTk s o S' v:=by
 obtain ⟨cs,e,h⟩:=h;exact ⟨cs,e,h.mono a⟩
def IsSe (s:Se) (S:ae) (v:Value):Prop:=∃ cs:List Value,v=.agg cs.toArray/\RdSe S cs s
theorem IsSe.mono {s:Se} {S S':ae} {v:Value} (h:IsSe s S v) (a:Sle S S'):IsSe s S' v:=by
 obtain ⟨cs,e,h⟩:=h;exact ⟨cs,e,h.mono a⟩
def IsCh (c:Ch) (S:ae) (v:Value):Prop:=∃ cs:List Value,v=.agg cs.toArray/\RdCh S cs c
theorem IsCh.mono {c:Ch} {S S':ae} {v:Value} (h:IsCh c S v) (a:Sle S S'):IsCh c S' v:=by
 obtain ⟨cs,e,h⟩:=h;exact ⟨cs,e,h.mono a⟩
section
attribute [local irreducible] Run CondV aq aK
end
end
section
open Go Go.RowKit
theorem BldR.inv0 {st:aj} {l:List Sp} {o:Option (List PF × List Sp)} (h:BldR st (.many 0) l o):o=some ([],l):=by
 cases h with
 | nil=>rfl
theorem RowRd.one {S:ae} {v:Value} {e:TypeId} {k n:Nat} {xs:List Value} (h:RowRd S v e k n xs):v.oneCell'=true:=by
 obtain ⟨_,⟨rfl,_⟩|⟨g,cap,a,rfl,_⟩⟩:=h <;> rfl
section
attribute [local irreducible] Run CondV aq aK
end
end
section
open Go Go.RowKit
mutual
def prF (vs:List Int):PF->PF
 | .mk g c ks=>.mk (dq vs g) c (prL vs ks)
def prL (vs:List Int):List PF->List PF
 | []=>[]
 | p::ps=>prF vs p::prL vs ps
end
theorem Q6 (vs:List Int):∀ a:List PF,prL vs a=a.map (prF vs)
 | []=>rfl
 | p::a=>by rw [prL,Q6 vs a]; rfl
mutual
theorem X7 (vs:List Int):∀ p:PF,wF (prF vs p)=wF p
 | .mk g c ks=>by rw [prF,wF,wF,D0,Vf vs ks,Q6,jO]
theorem Vf (vs:List Int):∀ a:List PF,wFL (prL vs a)=wFL a
 | []=>rfl
 | p::a=>by rw [prL,wFL,wFL,X7 vs p,Vf vs a]
end
theorem BldR.wsize {N:Nat} {st:aj} (D:Good N st) {j:BKd} {l:List Sp} {o:Option (List PF × List Sp)} (h:BldR st j l o):okLp N l->∀ ks f,o=some (ks,f)->wFL ks+ks.length+842 * f.length<=842 * l.length:=by
 induction h with
 | big=>intro _ ks f h; cases h
 | bad=>intro _ ks f h; cases h
 | stop=>intro _ ks f h; cases h
 | next=>intro _ ks f h; cases h
 | nil=>
  intro _ ks f h;simp only [aY,cE] at h;obtain ⟨rfl,rfl⟩:=h;simp [wFL]
 | @node x l _ u _ J q _ M=>
  intro g ks f h;simp only [aY,cE] at h;obtain ⟨rfl,rfl⟩:=h;have B:=M (fun y i=>g y (aR _ i)) _ _ rfl;have m:okU N u:=fj D J (g x (aM ..)).1.1;have V:=fF q m;simp only [wFL,wF,bq,bW];omega
 | @cons _ l Z f k O B _ r t=>
  intro g ks U h;simp only [aY,cE] at h;obtain ⟨rfl,rfl⟩:=h;obtain ⟨a,e⟩:=B.suf _ _ rfl;have G:=r g _ _ rfl;have Y:=t (fun y i=>g y (by rw [e]; exact fb _ i)) _ _ rfl;simp only [wFL,bq,bW] at G ⊢;omega
def rnC (w0:World) (X:List Nat) (b5:Nat) (F:Value->Array Value) (B:List Item) (kv:Value) (css:List (List Value)) (y:PF) (S:ae) (ji ir sA:Value) (w:World):Nat->Prop
 | 0=>Inv w0 X (B++[.blk b5 (.cells (F kv) fl),aA kv fl 6 css]) S w
 | 1=>∃ S1 cs,ji=.agg cs.toArray/\Ext w0.heap.size X S S1/\RdF S1 cs y/\Inv w0 X (B++[.blk b5 (.cells (F kv) fl),aA kv fl 6 css]) S1 w
 | 2=>∃ S1,Ext w0.heap.size X S S1/\RdSl S1 6 (RdF S1) ir [y]/\Inv w0 X (B++[.blk b5 (.cells (F kv) fl),aA kv fl 6 css]) S1 w
 | 3=>∃ S1 cs,Ext w0.heap.size X S S1/\RdF S1 cs y/\Inv w0 X (B++[.blk b5 (.cells (F kv) fl),aA sA fl 6 (css++[cs])]) S1 w
 | _=>∃ S1 kv' cs,Ext w0.heap.size X S S1/\RdF S1 cs y/\Inv w0 X (B++[.blk b5 (.cells (F kv') fl),aA kv' fl 6 (css++[cs])]) S1 w
theorem rnC.inv {w0 w:World} {X:List Nat} {a:Nat} {F:Value->Array Value} {B:List Item} {kv:Value} {css:List (List Value)} {y:PF} {S:ae} {f g i:Value}:∀ {n:Nat},rnC w0 X a F B kv css y S f g i w n->∃ R S1,Ext w0.heap.size X S S1/\Inv w0 X (B++R) S1 w
 | 0,h=>⟨_,_,Ext.refl _ _ _,h⟩
 | 1,⟨S1,_,_,hE,_,h⟩=>⟨_,S1,hE,h⟩
 | 2,⟨S1,hE,_,h⟩=>⟨_,S1,hE,h⟩
 | 3,⟨S1,_,hE,_,h⟩=>⟨_,S1,hE,h⟩
 | _+4,⟨S1,_,_,hE,_,h⟩=>⟨_,S1,hE,h⟩
theorem rnC.low {w0 w:World} {X:List Nat} {a:Nat} {F:Value->Array Value} {B:List Item} {kv:Value} {css:List (List Value)} {y:PF} {S:ae} {f g i:Value}:∀ {n:Nat},rnC w0 X a F B kv css y S f g i w n->n<4->∃ R S1,Inv w0 X (B++.blk a (.cells (F kv) fl)::R) S1 w
 | 0,h,_=>⟨_,_,h⟩
 | 1,⟨S1,_,_,_,_,h⟩,_=>⟨_,S1,h⟩
 | 2,⟨S1,_,_,h⟩,_=>⟨_,S1,h⟩
 | 3,⟨S1,_,_,_,h⟩,_=>⟨_,S1,h⟩
 | n+4,_,h=>by omega
section
attribute [local irreducible] Run CondV aq aK
end
end
section
open Go Go.RowKit
theorem Srch.inv {p:List C} {n:Nat} {s:Se} {o:Option Se} (h:Srch p n s o):(s.st.goals=[]/\o=some s) ∨ (s.st.goals≠[]/\n=0/\o=none) ∨
  (s.st.goals≠[]/\∃ m g e,n=m+1/\OneR p s g e/\((e=0/\o=none) ∨ (e=-1/\Srch p m g o) ∨ (e=-2/\∃ i,BackR p g.st.chs g.saved i/\((i=none/\o=none) ∨ ∃ t,i=some t/\Srch p m t o)))):=by
 cases h with
 | done h=>exact .inl ⟨h,rfl⟩
 | out h=>exact .inr (.inl ⟨h,rfl,rfl⟩)
 | halt h a=>exact .inr (.inr ⟨h,_,_,_,rfl,a,.inl ⟨rfl,rfl⟩⟩)
 | step h a f=>exact .inr (.inr ⟨h,_,_,_,rfl,a,.inr (.inl ⟨rfl,f⟩)⟩)
 | stop h a f=>exact .inr (.inr ⟨h,_,_,_,rfl,a,.inr (.inr ⟨rfl,_,f,.inl ⟨rfl,rfl⟩⟩)⟩)
 | back h a f l=>exact .inr (.inr ⟨h,_,_,_,rfl,a,.inr (.inr ⟨rfl,_,f,.inr ⟨_,rfl,l⟩⟩)⟩)
def FinO (s:Se) (o:Option PF):Prop:=∃ ob,BldR s.st.binds .one s.steps ob/\((ob=none/\o=none) ∨ ∃ x l2,ob=some ([x],l2)/\o=some (prF (pvT x []) x))
def FindO (p:List C) (n:Nat) (s:Se) (o:Option PF):Prop:=∃ oS,Srch p n s oS/\((oS=none/\o=none) ∨ ∃ t,oS=some t/\FinO t o)
theorem FindO.ex {p:List C} (f:∀ cl∈p,QO cl) (g:p.length<=1000000) {k n:Nat} {s:Se} (h:tk p.length s) (m:okP s) (i:okXk k s):∃ o,FindO p n s o:=by
 obtain ⟨r,a,_⟩:=Srch.ex (fun cl hc=>(f cl hc).cf) n s h;cases r with
 | none=>exact ⟨none,none,a,.inl ⟨rfl,rfl⟩⟩
 | some t=>
  obtain ⟨B,D,G⟩:=a.ok (fun cl hc=>(f cl hc).cf) h m t rfl;obtain ⟨J,l,M⟩:=YS B D G (a.okXk f g k h i t rfl);cases J with
  | none=>exact ⟨none,_,a,.inr ⟨t,rfl,none,l,.inl ⟨rfl,rfl⟩⟩⟩
  | some q=>
   obtain ⟨x,i⟩:=M q.1 q.2 rfl;exact ⟨_,_,a,.inr ⟨t,rfl,some q,l,.inr ⟨x,q.2,by rw [<- i],rfl⟩⟩⟩
theorem FinO.w {n k:Nat} {s:Se} (g:tk n s) (f:okXk k s) {o:Option PF} (h:FinO s o):∀ y,o=some y->wF y<=842 * k:=by
 intro y a;obtain ⟨m,i,⟨_,rfl⟩|⟨x,q,rfl,rfl⟩⟩:=h
 ·cases a
 ·rw [aY] at a;subst a;have l:=i.wsize g.st.good f.steps _ _ rfl;have r:=f.ns;simp only [wFL,bq,bW] at l;rw [X7];omega
section
attribute [local irreducible] Run CondV aq aK
end
end
section
open Go Go.RowKit
theorem FindO.w {p:List C} (f:∀ cl∈p,QO cl) (a:p.length<=1000000) {k n:Nat} {s:Se} (g:tk p.length s) (l:okP s) (m:okXk k s) {o:Option PF} (h:FindO p n s o):∀ y,o=some y->wF y<=842 * (k+n):=by
 obtain ⟨B,i,⟨rfl,rfl⟩|⟨t,rfl,q⟩⟩:=h
 ·intro y e; cases e
 ·obtain ⟨r,_,_⟩:=i.ok (fun cl hc=>(f cl hc).cf) g l t rfl;exact q.w r (i.okXk f a k g m t rfl)
section
variable {br:Nat} {sl:Value} {ys:List Nat} {S:ae}
attribute [local irreducible] Run CondV aq aK
end
end
section
open Go Go.RowKit
def muC (w0:World) (X:List Nat) (b5:Nat) (F:Value->Array Value) (B:List Item) (kv:Value) (css:List (List Value)) (t:T) (y:PF) (S:ae) (sr sy vj qd:Value) (w:World):Nat->Prop
 | 0=>rnC w0 X b5 F B kv css y S sy vj qd w 0
 | 1=>∃ S1 a1 a2 a3 a4,sr=.agg #[a1,a2,a3,a4]/\Ext w0.heap.size X S S1/\RdT S1 [a1,a2,a3,a4] t/\Inv w0 X (B++[.blk b5 (.cells (F kv) fl),aA kv fl 6 css]) S1 w
 | n+2=>rnC w0 X b5 F B kv css y S sy vj qd w (n+1)
theorem muC.low {w0 w:World} {X:List Nat} {a:Nat} {F:Value->Array Value} {B:List Item} {kv:Value} {css:List (List Value)} {t:T} {y:PF} {S:ae} {f g i l:Value}:∀ {n:Nat},muC w0 X a F B kv css t y S f g i l w n->n<5->∃ R S1,Inv w0 X (B++.blk a (.cells (F kv) fl)::R) S1 w
 | 0,h,_=>⟨_,_,h⟩
 | 1,⟨S1,_,_,_,_,_,_,_,h⟩,_=>⟨_,S1,h⟩
 | n+2,h,hn=>rnC.low (n:=n+1) h (by omega)
section
variable {br:Nat} {sl:Value} {ys:List Nat}
attribute [local irreducible] Run CondV aq aK
end
end
section
open Go Go.RowKit
end
section
open Go Go.RowKit
section
attribute [local irreducible] Run CondV aq aK
end
end
section
open Go Go.RowKit
section
variable {w:World} {K:Value->World->Prop}
attribute [local irreducible] Run
end
section
variable {S:ae} {ys:List Nat} {v:Value}
attribute [local irreducible] Run CondV aq aK
end
end
section
open Go Go.RowKit
section
variable {br:Nat} {sl:Value} {ys:List Nat} {S:ae}
attribute [local irreducible] Run CondV aq aK
theorem tz (S:ae):Tri Tryz.prog KD [] [] S fun v I' S'=>I'=[]/\∃ l,RdSl S' 1 wv v l/\l.length=7/\l.all okS=true:=by
 intro w a;refine vI.2 ?_;dsimp only[vI,nV];refine qA a (by kernel_rfl) rfl (by omega) fun v S1 w' f g a=>?_;exact ⟨_,[],S1,rfl,a,f,rfl,_,g,rfl,by decide +kernel⟩
theorem Ar (S:ae):Tri Tryz.prog E9 [] [] S fun v I' S'=>I'=[]/\∃ l,RdSl S' 1 wv v l/\l.length=7/\l.all okQ=true:=by
 intro w a;refine rt.2 ?_;dsimp only[rt,nV];refine qA a (by kernel_rfl) rfl (by omega) fun v S1 w' f g a=>?_;exact ⟨_,[],S1,rfl,a,f,rfl,_,g,rfl,by decide +kernel⟩
theorem H9 {p:Nat} (i:RdSl S 1 oD sl ys) (hp:p<=10000000):Tri Tryz.prog NL [rdP br] [rdI br sl p] S (XB br sl p 3):=by
 intro w a;refine zx.2 ?_;dsimp only[zx,aO];refine Run.call0E vX wc a (tz S) fun J I' S1 w'=>?_;rintro ⟨rfl,l,hl,M,_⟩ f a;have a:Inv w [br] [rdI br sl p] S1 w':=a;refine aJ hl cV ?_;refine Run.callL ct cr a (dJ (n:=l.length) (i.monoU f.1) (by omega) (by omega)) rfl fun J I' S1 w'=>?_;rintro ⟨rfl,rfl,k,hk,rfl⟩ _ a;have a:Inv w [br] [rdI br sl (p+1)] S1 w':=a;refine ⟨fun t w'=>∃ k r:Nat,t=.int .i64 (k:Int)/\k<7/\r<=p+3/\Inv w [br] [rdI br sl r] S1 w',?_,?_⟩
 ·refine Run.callL ct cr a (dJ (n:=3) (i.monoU f.1) (by omega) (by omega)) rfl fun J I' S1 w'=>?_;rintro ⟨rfl,rfl,k2,m,rfl⟩ _ a;have a:Inv w [br] [rdI br sl (p+2)] S1 w':=a;refine eP ?_;refine aL (fun _=>?_) (fun _=>⟨k,p+2,rfl,by omega,by omega,a⟩);refine Run.callL ct cr a (dJ (n:=4) (i.monoU f.1) (by omega) (by omega)) rfl fun J I' S1 w'=>?_;rintro ⟨rfl,rfl,k3,a2,rfl⟩ _ a;exact ⟨k3,p+3,rfl,by omega,by omega,a⟩
 intro t4 _ _ _ _ _ w';rintro ⟨k,r,rfl,a3,N,a⟩;refine Run.call0E vX wc a (tz S1) fun J I' S2 w'=>?_;rintro ⟨rfl,l,hl,M,B⟩ O a;have hk:k<l.length:=by omega
 refine fg a hl cV be hk (fun cs o=>o) ?_;rw [dD] at B;refine Run.call0E nj oj a (Jj (B _ (bG hk))) fun v I' S3 w'=>?_;rintro ⟨u,css,ps,rfl,rfl,hR,h0,U,_⟩ V a;have a:Inv w [br] [aA u ac 5 css,rdI br sl r] S3 w':=a.last 0 rfl;obtain ⟨S4,a0,a,hr⟩:=tx a hR;refine av (v:=u) rfl ?_;refine av (v:=.bool true) rfl ?_;refine Run.call0E DE Dt a (Ar S4) fun J I' S5 w'=>?_;rintro ⟨rfl,l2,Y,a1,h⟩ D a;have m:k<l2.length:=by omega
 refine fg a Y cV be m (fun cs o=>o) ?_;rw [dD] at h;refine Run.call0E DX DT a (Bz (h _ (bG m))) fun v I' S6 w'=>?_;rintro ⟨rfl,g,q,rfl,hg,Z⟩ G a;have a:Inv w [br] [rdI br sl r] S6 w':=by simpa using a
 refine av (v:=g) rfl ?_;refine av (v:=.bool true) rfl ?_;exact ⟨_,_,S6,rfl,a,f.trans (O.trans (V.trans (a0.trans (D.trans G)))),r,N,rfl,u,g,ps,q,rfl,hr.monoC (D.trans G).1,U,h0,hg,Z⟩
abbrev Zd (v':Value) (I':List Item) (S':ae):Prop:=I'=[]/\∃ u q i,v'=.tuple #[u,.int .i64 i]/\(-1000<=i/\i<=1000)/\RdSl S' 5 (RdC S') u q/\Light 30 900 q
theorem rh {v:Value} (h:RdSl S 1 oD v ys):Tri Tryz.prog sT [v] [] S Zd:=by
 intro w f;refine jP.2 ?_;dsimp only[jP,aO];refine Run.call0E LL Kz f (OW h) fun v1 I' S1 w'=>?_;rintro ⟨rfl,br,sl,a1,rfl,rfl,l⟩ _ f;have f:Inv w [] [rdI br sl 0] S1 w':=f;refine Run.callL LO Lp f (H9 (p:=0) l (by omega)) rfl fun v2 I' S2 w'=>?_;rintro ⟨M,a2,rfl,u,g,ps,q,rfl,N,D,h0,hq,a3⟩ r f;have f:Inv w [] [rdI br sl M] S2 w':=f;refine av (v:=u) rfl ?_;refine av (v:=g) rfl ?_;refine ⟨fun t w'=>∃ (B:Nat) (S3:ae) (q:List C),B<=100000/\Ext w.heap.size [] S1 S3/\RdSl S3 5 (RdC S3) t q/\Light 30 900 q/\Inv w [] [rdI br sl B] S3 w',?_,?_⟩
 ·refine Run.callL ct cr f (dJ (n:=6) (l.monoU r.1) (by omega) (by omega)) rfl fun v' I' S2 w'=>?_;rintro ⟨rfl,rfl,k,hk,rfl⟩ _ f;refine bw ?_;refine aL (fun _=>?_) (fun _=>⟨M+1,_,ps,by omega,r,N,⟨by have:=D.1; omega,fun c hc=>by have:=D.2 c hc; omega⟩,f⟩);refine Run.callL GD GT f (DW (p:=M+1) (l.monoU r.1) (by omega)) rfl fun v1 I' S3 w'=>?_;rintro ⟨B,a0,q1,O,rfl,U,G,h1,_⟩ o f;obtain ⟨S4,i,f,J⟩:=tx (A:=[rdI br sl B]) f U;have i:=(r.trans o).trans i;refine Run.callL AA AH f (yj (m:=200) (p:=B) (l.monoU i.1) J ⟨by have:=G.1; omega,G.2⟩ h1 (by omega) (by omega)) rfl fun v3 I' S5 w'=>?_;rintro ⟨p3,a4,rfl,q2,V,Y⟩ Z f;exact ⟨p3,S5,q2,by omega,i.trans Z,V,Y,f⟩
 intro t5 _ _ _ _ _ _ _ w';rintro ⟨B,S3,q3,O,o,J,hl,f⟩;refine Run.callL ct cr f (dJ (n:=3) (l.monoU o.1) (by omega) (by omega)) rfl fun v' I' S3 w'=>?_;rintro ⟨rfl,rfl,k,hk,rfl⟩ _ f;refine eP ?_;refine aL (fun _=>?_) (fun _=>?_)
 ·exact ⟨_,[],S3,rfl,f.nil,o,rfl,_,q3,0,rfl,by omega,J,hl⟩
 ·refine Bg f (by kernel_rfl) rfl (by omega) fun v S4 w' i hv f=>?_;refine Run.callL fK fI f (ma (p:=B+1) (l.monoU (o.trans i).1) hv (by decide) (by omega)) rfl fun v' I' S4 w'=>?_;rintro ⟨rfl,rfl,m,hm,rfl⟩ _ f;have hm:=uT (a:=-1000) (b:=1000) hm (by decide);exact ⟨_,[],S4,rfl,f.nil,o.trans i,rfl,_,q3,m,rfl,hm,J.monoC i.1,hl⟩
end
end
section
open Go Go.RowKit
section
variable {w w0:World} {X:List Nat} {L A:List Item} {S:ae} {K:Value->World->Prop}
attribute [local irreducible] Run CondV aq aK
end
end
section
open Go Go.RowKit
section
variable {w0 w:World} {X:List Nat} {L:List Item} {S:ae} {K:Value->World->Prop} {ys:List Nat} {v:Value}
attribute [local irreducible] Run CondV aq aK
theorem Light.fit {q:List C} (h:Light 30 900 q):q.length+wP q<=1048576:=by
 have:=h.le; omega
end
end
section
open Go Go.RowKit
section
variable {w:World} {K:Value->World->Prop}
attribute [local irreducible] Run
theorem P9 {sb:Nat} {a f:Option Addr} {g h i l:Nat} {fuel:Int} {b:Bool}
  (hk:K (.agg #[.pointer (some ⟨sb,0,none⟩),.slice a g i,.slice f h l,.bool b,.bool false,.int .i64 fuel,.int .i64 0,.int .i64 26,.pointer none,.slice none 0 0,.slice none 0 0,.int .i64 0]) w) :
  Run Tryz.prog (cR o5 [(0,.pointer (some ⟨sb,0,none⟩)),(1,.slice a g i),(2,.slice f h l),(5,.int .i64 fuel),(3,.bool b),(7,.int .i64 26)]) w K:=by
 refine Run.of (v:=.agg #[.pointer (some ⟨sb,0,none⟩),.slice a g i,.slice f h l,.bool b,.bool false,.int .i64 fuel,.int .i64 0,.int .i64 26,.pointer none,.slice none 0 0,.slice none 0 0,.int .i64 0]) (w':=w) ?_ hk;unfold cR;rw [Sem.run_bind,run_build w o5 _ #[.pointer (some ⟨sb,0,none⟩),.slice a g i,.slice f h l,.bool b,.bool false,.int .i64 fuel,.int .i64 0,.int .i64 26,.pointer none,.slice none 0 0,.slice none 0 0,.int .i64 0] (by kernel_rfl),Result.andThen_ok];rfl
end
section
attribute [local irreducible] Run CondV aq aK
theorem Inv.rowLeM {w0 w:World} {X:List Nat} {L:List Item} {S:ae} (h:Inv w0 X L S w) {i k n:Nat} {e:TypeId} {v:Value} {xs:List Value} (a:L[i]?=some (.row v e k n xs)):n<=maxLen:=by
 have f:w.ownsRow 0 e k v n xs:=h.its (.row v e k n xs) (cz a);rcases f.2 with ⟨rfl,hn⟩|⟨g,cap,l,rfl,_,_,hn,hc,_⟩
 ·rw [hn]; exact bk _
 ·exact gz hn hc
theorem DB {p:List C} {q:List T} {S:ae} {h i:Value} (B:RdSl S 5 (RdC S) h p) (o:RdSl S 4 (RdT S) i q) (fuel:Int) :
  Tri Tryz.prog Iu [h,i,.int .i64 fuel,.bool false] [] S fun x I' S'=>∃ sp sb mb t,x=.pointer (some ⟨sp,0,none⟩)/\GL S' t (fx q).goals/\
   I'=sV sp sb mb h i false fuel 0 26 t (.slice none 0 0) [] (.slice none 0 0) [] 0 #[] 0 (.slice none 0 0) []:=by
 intro w a;obtain ⟨G,f,rfl,-⟩:=id B;obtain ⟨J,g,rfl,-⟩:=id o;refine sY.2 ?_;dsimp only[sY,lK];refine Run.call0 we vU a (ux S) fun D I' S' w'=>?_;rintro ⟨rfl,sb,mb,rfl,rfl⟩ _ a;refine P9 ?_;refine bJ a fun sp w' a=>?_;refine Run.call0E ML MU a (Jt (cut:=0) (up:=-1) o GL.nil) fun D I' S1 w'=>?_;rintro ⟨rfl,l⟩ m a;have a:=a.sub (dt _ _);obtain ⟨r,rfl⟩:=l.ptr;refine aE ?_;refine dj a 3 rfl ic dP rfl rfl rfl fun w' a=>?_;have a:=(a.rowNil ek 9).rowNil lX 6;have a:Inv w [] (aB sb mb #[] 0 (.slice none 0 0) []++[fL sp (dX sb (.slice G p.length f) (.slice J q.length g) false fuel 0 26 (.pointer r) (.slice none 0 0) (.slice none 0 0) 0),chI (.slice none 0 0) [],noI (.slice none 0 0) []]) S1 w':=a;refine ⟨_,_,S1,rfl,a.perm (cj (l₂:=aB sb mb #[] 0 (.slice none 0 0) [])),m,sp,sb,mb,.pointer r,rfl,?_,rfl⟩;rw [bV] at l;exact l
theorem E0 {p:List C} {q:List T} {S:ae} {f g:Value} (h:RdSl S 5 (RdC S) f p) (i:RdSl S 4 (RdT S) g q) {most fuel:Nat} (m:most<=20) (hf:fuel<=300) :
  Pure Tryz.prog KK [f,g,.int .i64 (most:Int),.int .i64 (fuel:Int)] S (.bool (dc p && dZ q)):=by
 intro w a;refine vG.2 ?_;dsimp only[vG,lK];refine Run.callPure jj jI a (iF h) fun w' a=>?_;have e1:(decide ((0:Int)<=(most:Int)) && decide ((most:Int)<=20))=true:=by simp; omega
 have e2:(decide ((0:Int)<=(fuel:Int)) && decide ((fuel:Int)<=300))=true:=by simp; omega
 cases o:dc p
 ·refine rpG ?_;exact done a rfl
 ·refine rpG ?_;refine Run.callPure Dv DP a (zj i) fun w' a=>?_;cases l:dZ q
  ·refine rpG ?_;exact done a rfl
  ·refine rpG ?_;refine Run.callPure fS fT a (fi _ _ _ S) fun w' a=>?_;rw [e1];refine rpG ?_;refine Run.callPure fS fT a (fi _ _ _ S) fun w' a=>?_;rw [e2];refine rpG ?_;exact done a rfl
set_option maxHeartbeats 2000000 in
theorem M9 {p:List C} {q:List T} {S:ae} {pv qv:Value} (h4:RdSl S 5 (RdC S) pv p) (hq:RdSl S 4 (RdT S) qv q) {most fuel:Nat} (hm:most<=20) (hf:fuel<=300) {r:List (List T) × Int} (hr:SolR p q most fuel r) :
  Tri Tryz.prog SS [pv,qv,.int .i64 (most:Int),.int .i64 (fuel:Int),.bool false] [] S fun x I' S'=>I'=[]/\∃ v,x=.tuple #[v,.int .i64 r.2]/\RdSl S' 1 (RdAns S') v r.1:=by
 intro w l;refine Gj.2 ?_;dsimp only[Gj,JO];refine Run.callPure Hl Ik l (E0 h4 hq hm hf) fun w' l=>?_;refine cw ?_;rcases hr with ⟨hb,hr⟩|⟨hb,rfl⟩
 ·rw [hb];refine aD (fun h=>by cases h) (fun _=>?_);have D:=hb;rw [bM] at D;obtain ⟨f1,f2,f3⟩:=gT D.1;obtain ⟨g1,g2,g3⟩:=wM D.2;refine Run.call0E Gz Fp l (DB h4 hq fuel) fun v' I' S1 w'=>?_;rintro ⟨sp,sb,mb,gv,rfl,hG,rfl⟩ J l;have a0:=mx D.2 p.length;have a1:(fx q).st.length=26:=by show (List.replicate 26 (none:Option T)).length=26; simp
  have hK:SeaK S1 (fx q).chs (fx q).nodes (fx q).st [] [] #[] [] []:=by
   refine ⟨KnownM.none S1 26,Rows.nil _ _,Rows.nil _ _,.nil,?_⟩;show ([]:List Int).length+unb (List.replicate 26 none)<=(List.replicate 26 (none:Option T)).length;rw [Ev];simp
  have b5:26 * p.length * (fuel+1)<=520 * 301:=L5 (by omega) (by omega);have b2:Za p fuel (fx q):=by
   refine ⟨a0,by omega,?_,?_,?_⟩
   ·rw [a1];show 26+26 * 0+_<=_;omega
   ·show 0+fuel<=_;omega
   ·show 0+fuel<=_;omega
  refine Run.callE (A:=[]) DA DD l (by
   have:=TG f1 f2 (by omega) (by omega) hr b2 g1 g2 (by omega) (fuel:=fuel) (used:=0) (Jq _) (by omega) (by omega) (h4.monoC J.1) (hq.monoT J.1) hG hK (sp:=sp) (sb:=sb) (mb:=mb) (ck:=0) (mo:=0) (cv:=.slice none 0 0) (nv:=.slice none 0 0) (tv:=.slice none 0 0);rw [a1] at this;exact this) fun v' I' S2 w'=>?_
  rintro ⟨v,css,rfl,rfl,hR⟩ a5 l;have b3:=hr.small f1 g1 g2 a0 (by omega) (by simp);refine av rfl ?_;refine av rfl ?_;refine kN l 0 rfl fo ?_;have b7:=hR.hc;have a2:=J.trans a5;have l:Inv w [] [aA v eD 1 css] S2 w':=l;refine ⟨fun i w'=>∃ (k:Nat) (a:List (List Value)) (S3:ae),k<=css.length/\i=.int .i64 (k:Int)/\a.length=css.length/\Ext w.heap.size [] S2 S3/\Rows 1 (RdAns S3) a r.1/\Inv w [] [.row v eD 1 css.length a.flatten] S3 w',
   fun i _=>css.length - (intOf i).toNat,⟨0,css,S2,bk _,rfl,rfl,Ext.refl _ _ _,hR,l⟩,?_⟩
  clear l;intro ii _ _ _ _ _ _ _ _ _ _ _ _ _ _ w';rintro ⟨k,a,S3,hk,rfl,B,O,m,l⟩;refine bS ?_;refine aL (fun a8=>?_) (fun a8=>?_)
  ·have t:k<a.length:=by omega
   have a3:k<r.1.length:=by omega
   have b4:=l.rowLeM (i:=0) rfl;simp only [maxLen] at b4;rw [<- B] at l;obtain ⟨u,hu,U⟩:=m.hR k a3 t;obtain ⟨g,cap,hv,N⟩:=l.rowPtr (i:=0) rfl t m.hk;subst hv;obtain ⟨ua,V,rfl,-⟩:=id U;have a4:=b3 _ (bG a3);refine az fo t ?_;refine ci (cs:=[.slice ua r.1[k].length V]) ri rfl (fun j x hj=>by
    rw [cP];exact N j x (by rw [hu]; exact hj)) ?_
   refine aQ l Qo fun b6 w' l=>?_;refine au l 1 rfl ri rfl rfl (by simp [Value.oneCell']) fun w' l=>?_;refine af l 1 rfl l5 al rfl ?_;have l:Inv w [] [aA (.slice (some ⟨g,0,none⟩) a.length cap) eD 1 a] S3 _:=l.sub (dt [_] [_]);refine Run.call0E qH qf l (vM U a4) fun v' I' S5 w'=>?_;rintro ⟨rfl,M,rfl,hT⟩ a6 a7;obtain ⟨S9,a9,b0,Y⟩:=Inv.pubExt a7;have hn:=hT.rd Y fun _ _ _ hi h=>h.rd hi;obtain ⟨na,o,rfl,-⟩:=id hn;refine az fo t ?_;refine aw l5 ?_;refine EK a9 0 (j:=k) (f:=0) rfl al t (by omega) (by omega) m.hk rfl rfl fun w' l=>?_;have G:=a6.trans b0;refine bC (by omega) ?_;refine ⟨⟨k+1,a.set k (a[k].set 0 (.slice na r.1[k].length o)),S9,by omega,rfl,by rw [ly,B],O.trans G,?_,?_⟩,by simp only [intOf,cu]; omega⟩
   ·have h9:=(m.monoR fun _ _=>RdAns.mono G.1).set k (cs:=a[k].set 0 (.slice na r.1[k].length o)) (y:=r.1[k]) ⟨_,by rw [hu]; rfl,hn⟩ (by rw [hu]; rfl)
    rwa [Pz] at h9
   ·have l:Inv w [] [aA (.slice (some ⟨g,0,none⟩) a.length cap) eD 1 (a.set k (a[k].set 0 (.slice na r.1[k].length o)))] S9 _:=l;rw [aA,ly] at l;rw [<- B];exact l
  ·rw [<- B] at l;have l:Inv w [] ([]++[aA v eD 1 a]) S3 _:=l;obtain ⟨S4,Z,b1,l⟩:=l.lendExt;exact ⟨_,_,S4,rfl,l,(a2.trans O).trans Z,rfl,v,rfl,RowRd.rows (m.monoR fun _ _=>RdAns.mono Z.1) b1⟩
 ·rw [hb];refine aD (fun _=>?_) (fun h=>by cases h);exact ⟨_,_,S,rfl,l,Ext.refl _ _ _,rfl,_,rfl,none,0,rfl,aS _,bk _,.inl rfl⟩
theorem B8 {p:List C} {q:List T} {S:ae} {g h:Value} (i:RdSl S 5 (RdC S) g p) (l:RdSl S 4 (RdT S) h q) {most fuel:Nat} (m:most<=20) (hf:fuel<=300) {r:List (List T) × Int} (o:SolR p q most fuel r) :
  Tri Tryz.prog TK [g,h,.int .i64 (most:Int),.int .i64 (fuel:Int)] [] S fun x I' S'=>I'=[]/\∃ v,x=.tuple #[v,.int .i64 r.2]/\RdSl S' 1 (RdAns S') v r.1:=by
 intro w a;refine Gq.2 ?_;dsimp only[Gq,lK];refine Run.call0E Qb PA a (M9 i l m hf o) fun t I' S1 w'=>?_;rintro ⟨rfl,v,rfl,hR⟩ f a;refine av rfl ?_;refine av rfl ?_;exact ⟨_,_,S1,rfl,a,f,rfl,v,rfl,hR⟩
end
end
section
open Go Go.RowKit
section
variable {S:ae} {ys:List Nat} {v:Value}
attribute [local irreducible] Run CondV aq aK
end
end
section
open Go Go.RowKit
section
attribute [local irreducible] Run CondV aq aK
theorem Il {ts:List T} {S:ae} {u v:Value} (h:RdSl S 4 (RdT S) u ts) (g:RdSl S 4 (RdT S) v ts):Pure Tryz.prog GQ [.agg #[u],.agg #[v]] S (.bool true):=by
 intro w a;refine ru.2 ?_;dsimp only[ru,bm];refine bJ a fun f w' a=>?_;refine bJ a fun b3 w' a=>?_;have a:Inv w [] [.blk f (.cells #[u] eD),.blk b3 (.cells #[v] eD)] S w':=a;refine af a 0 rfl l5 al rfl ?_;refine af a 1 rfl l5 al rfl ?_;refine Run.callPure iE iD a (qZ (fun t _=>ij t) h g) fun w' a=>?_;rw [(xZ _ _).2 rfl];exact done a rfl
theorem Dl {m:List (List T)} {S:ae} {u v:Value} (h:RdSl S 1 (RdAns S) u m) (g:RdSl S 1 (RdAns S) v m):Pure Tryz.prog Hm [u,v] S (.bool true):=by
 intro w f;have t:=h.le;simp only [maxLen] at t;refine tp.2 ?_;dsimp only[tp,bm];refine aJ h fo ?_;refine aJ g fo ?_;refine fW ?_;refine aD (fun G=>by simp at G) (fun _=>?_);refine ⟨fun i w'=>∃ k:Nat,k<=m.length/\i=.int .i64 k/\Inv w [] [] S w',fun i _=>m.length - (intOf i).toNat,⟨0,bk _,rfl,f⟩,?_⟩;clear f;intro t5 _ _ _ a0 a1 a2 a3 a4 a5 a6 a7 a8 a9 _ _ _ _ w';rintro ⟨k,hk,rfl,f⟩;refine aJ h fo ?_;refine bS ?_;refine aL (fun J=>?_) (fun J=>done f rfl);have l:k<m.length:=by omega
 obtain ⟨b,o,cap,c,E,fz,rfl,hS,u1,he,hR⟩:=h.at_ l;obtain ⟨b2,o2,r,c2,E2,b0,rfl,N,v1,O,U⟩:=g.at_ l;have hJ:=f;clear f;refine ⟨fun D V Y Z r4 pR oK jG kZ rF jX B=>Fx D 0 [jX=.slice (some ⟨b,o,none⟩) m.length cap,rF=.int .i64 k,kZ=.pointer (some ⟨b,o+k * 1,none⟩),jG=.agg #[u1],oK=.slice (some ⟨b2,o2,none⟩) m.length r,pR=.int .i64 k,r4=.pointer (some ⟨b2,o2+k * 1,none⟩),Z=.agg #[v1],Y=.bool true,V=.bool false]/\Inv w [] [] S B,⟨Fx.nil _ _,hJ.draw⟩,⟨?_,?_,?_,?_,?_,?_,?_,?_,?_,?_,trivial⟩,?_⟩;all_goals (intro D bH; intros; rename_i V Y Z r4 pR oK jG kZ rF jX B q; have a:=q.1; obtain ⟨⟨cI,cJ,cH,cD,cL,cN,cq,dg,dG,dL,_⟩,f⟩:=q)
 ·exact ⟨a.set 0 rfl,f⟩
 ·exact ⟨a.set 1 rfl,f⟩
 ·obtain rfl:=cI ‹_›;obtain rfl:=cJ ‹_›;refine az fo l ?_;exact ⟨a.set 2 rfl,f⟩
 ·obtain rfl:=cH ‹_›;refine ci (cs:=[u1]) ri rfl (fun j v M=>by rw [f.cellS hS]; exact aF he j v M) ?_;exact ⟨a.set 3 rfl,f⟩
 ·exact ⟨a.set 4 rfl,f⟩
 ·exact ⟨a.set 5 rfl,f⟩
 ·obtain rfl:=cL ‹_›;obtain rfl:=cN ‹_›;refine az fo l ?_;exact ⟨a.set 6 rfl,f⟩
 ·obtain rfl:=cq ‹_›;refine ci (cs:=[v1]) ri rfl (fun j v M=>by rw [f.cellS N]; exact aF O j v M) ?_;exact ⟨a.set 7 rfl,f⟩
 ·obtain rfl:=cD ‹_›;obtain rfl:=dg ‹_›;refine Run.callPure DR Dx f (Il hR U) fun B f=>?_;exact ⟨a.set 8 rfl,f⟩
 ·obtain rfl:=dG ‹_›;refine cw ?_;exact ⟨a.set 9 rfl,f⟩
 obtain ⟨rfl,rfl,rfl,rfl,rfl,rfl,rfl,rfl,rfl,rfl,_⟩:=a.all;clear a cI cJ cH cD cL cN cq dg dG dL;refine aD (fun G=>by cases G) (fun _=>?_);refine bC (by omega) ?_;exact ⟨⟨k+1,l,rfl,f⟩,by simp [intOf]; omega⟩
theorem RdAnsL.mono {S S':ae} (a:Sle S S') {v:Value} {f:List (List T)} (h:RdSl S 1 (RdAns S) v f):RdSl S' 1 (RdAns S') v f:=h.mono a fun _ _=>RdAns.mono a
end
end
section
open Go Go.RowKit
def vsU (k:Nat):List T:=(List.range k).map fun m:Nat=>ul (m:Int)
theorem Vi (k:Nat):vsU (k+1)=vsU k++[ul (k:Int)]:=by
 unfold vsU;rw [List.range_succ,BD];rfl
section
variable {w w0:World} {X:List Nat} {L:List Item} {S:ae} {K:Value->World->Prop}
attribute [local irreducible] Run CondV aq aK
theorem Run.pubCOE {f:FuncId} {fn:Func} {args:List Value} {ys:List C} {b:Bool} (hf:Tryz.prog.funcs[f]?=some fn) (hn:(fn.name == "runtime.NumGoroutine" || fn.body.isNone)=false) (a:Inv w0 X L S w)
  (hc:Tri Tryz.prog f args [] S (QR ys b)) (hk:∀ u S' w',Ext w0.heap.size X S S'->RdSl S' 5 (RdC S') u ys->Inv w0 X L S' w'->K (.tuple #[u,.bool b]) w'):Run Tryz.prog (ff (.func (.func f) #[] #[]) args) w K:=by
 refine Run.call0E hf hn a hc fun q I' S' w'=>?_;rintro ⟨u,M,rfl,rfl,l⟩ m a;obtain ⟨S1,a,i,g⟩:=Inv.pubExt a;exact hk _ _ _ (m.trans i) (l.rd g fun _ _ _ o h=>h.rd o) a
theorem PB {a:Int} {s:ByteArray} {v:Value} (f:∃ p n m,v=.slice p n m) (hk:K (.agg #[.int .i64 a,.int .i64 0,.string s,v]) w):Run Tryz.prog (cR ab [(0,.int .i64 a),(2,.string s),(3,v)]) w K:=by
 obtain ⟨p,n,m,rfl⟩:=f;refine Run.of (v:=.agg #[.int .i64 a,.int .i64 0,.string s,.slice p n m]) (w':=w) ?_ hk;unfold cR;rw [Sem.run_bind,run_build w ab _ #[.int .i64 a,.int .i64 0,.string s,.slice p n m] (by kernel_rfl),Result.andThen_ok];rfl
end
section
variable {S:ae} {ys:List Nat} {v:Value}
attribute [local irreducible] Run CondV aq aK
theorem HB (h:RdSl S 1 oD v ys):Pure Tryz.prog cW [v] S (.bool true):=by
 intro w a;refine lO.2 ?_;dsimp only[lO,aO];refine aJ h eQ ?_;refine eP ?_;refine aL (fun _=>done a rfl) (fun _=>?_);refine Run.call0E si sf a (rh h) fun v1 I' S1 w'=>?_;rintro ⟨rfl,u,p,i,rfl,hi,o,a1⟩ b8 a;have a:Inv w [] [] S1 w':=a;have c7:=a1.1;have b2:p.length+wP p<=1048576:=by have:=a1.le; omega
 obtain ⟨ua,uc,rfl,_⟩:=id o;refine av (v:=.slice ua p.length uc) rfl ?_;refine av (v:=.int .i64 i) rfl ?_;obtain ⟨l,ok,D⟩:=UB.ex p i;refine Run.pubCOE zn xL a (sQ D o b2) fun d S2 w' a4 hd a=>?_;have o:=o.monoC a4.1;refine av (v:=d) rfl ?_;refine av (v:=.bool ok) rfl ?_;refine Run.pubCOE zB yP a (uw D o b2) fun t S3 w' Y ht a=>?_;have o:=o.monoC Y.1;have hd:=hd.monoC Y.1;have N:=(b8.trans a4).trans Y;refine av (v:=t) rfl ?_;refine av (v:=.bool ok) rfl ?_;refine ⟨fun t w'=>t=.bool (!ok)/\Inv w [] [] S3 w',?_,?_⟩
 ·refine TY Ef ?_;rw [PH];refine rpG ?_;refine Run.callPure s4 sX a (rI hd ht) fun w' a=>?_;refine cw ?_;refine rpG ?_;refine cw ?_;refine rpG ?_;exact ⟨rfl,a⟩
 intro q _ _ _ _ _ _ _ _ _ _ _ _ w';rintro ⟨rfl,a⟩;refine aD (fun _=>?_) (fun hb=>?_)
 ·refine Zf Ef ?_;rw [PH];refine rpG ?_;refine Run.callPure s4 sX a (rI hd ht) fun w' a=>?_;refine rpG ?_;exact iw a N.1 rfl
 obtain rfl:ok=true:=by simpa using hb
 have c3:lC p i=true:=by
  rcases D with ⟨_,_,h⟩|⟨h,_⟩
  ·cases h
  ·exact h
 obtain ⟨a6,k,G,rfl,_⟩:=mt c3;obtain ⟨pb,po,d0,pc,pE,d1,J,a7,c0⟩:=o.at_ G;have c4:ua=some ⟨pb,po,none⟩:=by
  simp only [Value.slice.injEq] at J;exact J.1
 have b3:∀ {ty:TypeId} {K:Value->World->Prop} {w':World},K (.pointer (some ⟨pb,po+k * 5,none⟩)) w'->Run Tryz.prog (sOp (.indexAddr gr (.const (.slice ua p.length uc)) (.const (.int .i64 (k:Int)))) ty) w' K:=fun hk=>by rw [c4]; exact az bf G hk
 obtain ⟨Z,d2,a8,hh,d3⟩:=c0.cells;obtain ⟨c6,a9,_,_,c1,b0⟩:=RdT.iff.1 hh;simp only [dK,gL,i7] at a9;subst a9;obtain ⟨n,hn⟩:∃ n,n=p[k].head.kids.length:=⟨_,rfl⟩
 have d4:n<=1000000:=by
  have:=b0.le;simp only [maxLen] at this;have h1:=(dU (C9 a6 (bG G))).1;have h2:=yE (C9 a6 (bG G));have h3:p[k].head.kids.length<=wT p[k].head:=by
   cases d6:p[k].head;rw [wT];show _<=_+_+_;simp only [T.kids];omega
  unfold wC at h2;omega
 have g3:pc[po+k * 5+0+3]?=some Z:=by
  rw [tg];exact aF a8 3 Z rfl
 have g2:pc[po+k * 5+0+2]?=some (.string p[k].head.name):=by
  rw [tg];exact aF a8 2 _ rfl
 refine ei a bn fun c9 w' a=>?_;refine ⟨fun i t w'=>∃ (m:Nat) (css:List (List Value)) (S4:ae),m<=n/\i=.int .i64 (m:Int)/\Ext w.heap.size [] S S4/\Ext w.heap.size [] S3 S4/\Rows 4 (RdT S4) css (vsU m)/\Inv w [] [aA t ab 4 css] S4 w',
  fun i _ _=>n - (intOf i).toNat,⟨0,[],S3,bk _,rfl,N,Ext.refl _ _ _,Rows.nil _ _,a⟩,?_⟩
 clear a;intro c8 _ _ t9 _ _ _ _ _ _ _ _ _ _ _ _ _ _ w';rintro ⟨m,css,S4,hm,rfl,a2,B,hR,a⟩;have b4:=hR.hc;have b4:css.length=m:=by rw [b4]; simp [vsU]
 refine b3 ?_;refine aw bO ?_;refine aw ar ?_;refine cQ al (v:=Z) ((a.cellS (B.1 _ _ a7)).trans g3) ?_;refine aJ b0 ah ?_;refine bS ?_;refine aL (fun g=>?_) (fun g=>?_)
 ·have g:(m:Int)<(p[k].head.kids.length:Int):=g;refine nC ?_;refine de a 0 [.int .i64 1,.int .i64 (m:Int),.string ⟨#[]⟩,.slice none 0 0] bn (by omega) (by omega) rfl rfl (by simp [Value.oneCell']) (by omega) (by omega) fun b9 w4 a=>?_;have a:Inv w [] [aA b9 ab 4 (css++[[Value.int .i64 1,Value.int .i64 (m:Int),Value.string ⟨#[]⟩,Value.slice none 0 0]])] S4 w4:=a;refine bC (by omega) ?_;refine ⟨⟨m+1,css++[[.int .i64 1,.int .i64 (m:Int),.string ⟨#[]⟩,.slice none 0 0]],S4,by omega,rfl,a2,B,?_,a⟩,by simp [intOf]; omega⟩;rw [Vi];exact hR.snoc (pu ⟨by omega,by omega⟩ ⟨by omega,by omega⟩) rfl
 ·have g:¬ (m:Int)<(p[k].head.kids.length:Int):=g;obtain rfl:m=n:=by omega
  refine b3 ?_;refine aw bO ?_;refine aw bl ?_;refine cQ be (v:=.string p[k].head.name) ((a.cellS (B.1 _ _ a7)).trans g2) ?_;have a:Inv w [] ([]++[aA t9 ab 4 css]) S4 w':=a;obtain ⟨S5,a0,c2,a⟩:=a.lendExt;have hr:=RowRd.rows (hR.monoR fun _ _ h=>h.mono a0.1) c2;have hJ:=a;obtain ⟨ra,rc,rfl,_⟩:=id hr;have a:=hJ;refine PB ⟨_,_,_,rfl⟩ ?_;have c5:RdT S5 [.int .i64 3,.int .i64 0,.string p[k].head.name,.slice ra (vsU m).length rc] (.mk 3 0 p[k].head.name (vsU m)):=RdT.iff.2 ⟨_,rfl,(⟨by omega,by omega⟩:inI 3),(⟨by omega,by omega⟩:inI 0),c1,hr⟩;refine Zo a c5 fun qv S6 w' a5 hq a=>?_;have O:=(B.trans a0).trans a5;have b5:=(a2.trans a0).trans a5;obtain ⟨r,b1⟩:=SolR.ex p [.mk 3 0 p[k].head.name (vsU m)] 10 150;obtain ⟨r',M⟩:=SolR.ex l [.mk 3 0 p[k].head.name (vsU m)] 10 150;refine Run.call0E G9 Fk a (B8 (most:=10) (fuel:=150) (o.monoC O.1) hq (by omega) (by omega) b1) fun t I' S7 w'=>?_;rintro ⟨rfl,v1,rfl,f⟩ U a;refine av (v:=v1) rfl ?_;refine av (v:=.int .i64 r.2) rfl ?_;have b6:=O.trans U;refine Run.call0E G9 Fk a (B8 (most:=10) (fuel:=150) (hd.monoC b6.1) (hq.monoT U.1) (by omega) (by omega) M) fun t I' S8 w'=>?_;rintro ⟨rfl,v2,rfl,a3⟩ V a;refine av (v:=v2) rfl ?_;refine av (v:=.int .i64 r'.2) rfl ?_;have b7:=((b5.trans U).trans V).1;have f:RdSl S8 1 (RdAns S8) v1 r.1:=f.mono V.1 fun _ _=>RdAns.mono V.1;refine ⟨fun t w'=>t=.bool (decide (r.2=2) || (decide (r.2=3) || (decide (r'.2=3) || (decide (r.2=8) || decide (r'.2=8)))))/\Inv w [] [] S8 w',?_,?_⟩
  ·refine bw ?_;cases decide (r.2=2)
   ·refine rpG ?_;refine bw ?_;cases decide (r.2=3)
    ·refine rpG ?_;refine bw ?_;cases decide (r'.2=3)
     ·refine rpG ?_;refine bw ?_;cases decide (r.2=8)
      ·refine rpG ?_;refine bw ?_;refine rpG ?_;exact ⟨rfl,a⟩
      ·refine rpG ?_;exact ⟨rfl,a⟩
     ·refine rpG ?_;exact ⟨rfl,a⟩
    ·refine rpG ?_;exact ⟨rfl,a⟩
   ·refine rpG ?_;exact ⟨rfl,a⟩
  intro q _ _ _ _ _ _ _ _ _ _ _ _ _ _ _ _ _ w';rintro ⟨rfl,a⟩;refine aD (fun _=>iw a b7 rfl) (fun hb=>?_);simp only [IQ,mK] at hb;obtain ⟨n1,n2,n3,n4,n5⟩:=hb;have e:=SolR.unf D (fun t ht=>by rw [bK.1 ht]; rfl) b1 M n1 n2 n4 n3 n5;subst e;refine gf rfl ?_;refine rpG ?_;refine Run.callPure Hd GB a (Dl f a3) fun w' a=>?_;refine rpG ?_;exact iw a b7 rfl
end
end
section
open Go Go.ChangeShapes Go.WideShapes Go.RowKit
def Sk:List (String × DataW Unit):=[("math/bits.deBruijn32tab",Rows.laid_math_bits_deBruijn32tab),("math/bits.deBruijn64tab",Rows.laid_math_bits_deBruijn64tab),("internal/strconv.uint64pow10",Rows.laid_internal_strconv_uint64pow10)]
theorem Uh (os:Os) (args:Array Value):laidMetH Tryz.prog Sk ((World.doorLaid Tryz.prog 24 os).forCall (fun _ _=>0) ⟨#[],args,[]⟩).memory:=
 laidMetH_of_parts3 (fuel:=8) (laidMet_of_run' 8 (by kernel_rfl) (by kernel_rfl)) (by kernel_rfl) (by kernel_rfl)
end
section
open Go Go.ChangeShapes Go.WideShapes Go.ChangeAt Go.RowKit

theorem Tryz.own:ownKnob Tryz.prog.godebug=none:=by kernel_rfl
theorem Tryz.kids:Kids Tryz.prog (·<Tryz.prog.types.size):=kids_rows (by kernel_rfl) (by kernel_rfl)
theorem Tryz.full:∀ t e,t<Tryz.prog.types.size->Tryz.prog.underlying t=some (.slice e)->0<Tryz.prog.cellsOf e:=slices_full_of Tryz.prog (by kernel_rfl)
section
variable {H:Type} {enc:TypeId × Value->H} {W W':World}
theorem Ov {P:Program}:∀ {ts:List TypeId} {vs:List Value} {ds:List (DataW H)} {a:List MemPlace},DataW.TrodAll enc P W 0 (fun _=>true) true ts vs ds a->(∀ p∈a,W.sameAt W' p)->
  DataW.TrodAll enc P W' 0 (fun _=>true) true ts vs ds a
 | [],[],[],_,h,_=>h
 | _::_,_::_,_::_,_,⟨p,q,⟨n,h1⟩,h2,e⟩,hs=>
  ⟨p,q,⟨n,DataW.trod_carry n _ _ _ h1 fun x f=>hs x (by rw [e]; exact cZ _ f)⟩,Ov h2 fun x f=>hs x (by rw [e]; exact fb _ f),e⟩
theorem WG {p:MemPlace} (h:∀ b,b<W.heap.size->W'.heap[b]?=W.heap[b]?) (a:p.block<W.heap.size):W.sameAt W' p:=by
 cases p with
 | cell b f=>simp only [World.sameAt,World.cell?]; rw [h b a]
 | map b=>exact h b a
theorem TE {f:Func} {s:ChangeSpec} {args:Array Value} {ds gs:List (DataW H)} {a p q:List MemPlace}
  (G:DataW.Whole enc Tryz.prog f.params.toList s.vars false W args.toList ds gs a) (N:DataW.TrodAll enc Tryz.prog W 0 (fun _=>true) true f.params.toList args.toList ds p)
  (J:DataW.TrodVars enc Tryz.prog W (fun _=>true) s.vars gs q) (l:a=p++q) (M:s.vars=[]) (m:∀ t∈f.params.toList,t<Tryz.prog.types.size) (O:f.resultTypes=#[QD])
  (U:(s.fn H (ds++gs)).results=[.lit (.bool true)]) (V:(s.fn H (ds++gs)).args=ds) (o:(s.fn H (ds++gs)).vars=[]) (r:Inv W [] [] (SD W) W') :
  s.post enc Tryz.prog f false true false false W args (.bool true) W':=by
 have g:∀ b,b<W.heap.size->W'.heap[b]?=W.heap[b]?:=fun b l=>r.same b l;have i:=G.lt;rw [M] at J;obtain ⟨Z,Y⟩:=trodVars_none J;subst Y;rw [bV] at l;subst l;have D:=Ov (W':=W') N fun x B=>WG g (i x B);refine ⟨ds,gs,a,[],a,[],G,?_,?_,?_,TA r.os r.output g,fun h=>by cases h⟩
 ·rw [U,O];exact trodAll_mk1 (shut_bool Ef true)
 ·rw [V];exact DataW.TrodAll.respare Tryz.kids Tryz.full m D fun x B=>by simpa using i x B
 ·rw [M,o];rfl
end
end
end Go.Proofs.YtgllldjiaglkcaaGreatDoor
