/- the search keeps its steps in preorder. -/
import Derived.Test.YtgllldjiaglkcaaGreatDoorZUf18
namespace Go.Proofs.YtgllldjiaglkcaaGreatDoor
section
open Go Go.RowKit
def okB (cs:List Ch) (ss:List (List Sp)):Prop:=∀ i (h:i<cs.length) (h':i<ss.length),(cs[i].rest.length:Int)+1=pend ss[i]/\openP ss[i]
theorem okB.last {cs:List Ch} {a:List (List Sp)} {c:Ch} {t:List Sp} (h:okB (cs++[c]) (a++[t])) (hl:cs.length=a.length):okB cs a/\(c.rest.length:Int)+1=pend t/\openP t:=by
 constructor
 ·intro i f g;have:=h i (by simp; omega) (by simp; omega);rw [fA f,fA g] at this;exact this
 ·have:=h cs.length (by simp) (by simp [hl]);rw [eZ (aS _),eZ (by omega)] at this;simp only [hl,ey,lc] at this;exact this
theorem BackR.okP {p:List C} {cs:List Ch} {a:List (List Sp)} {o:Option Se} (h:BackR p cs a o):cs.length=a.length->okB cs a->∀ s,o=some s->okP s:=by
 induction h with
 | nil=>intro _ _ s h; cases h
 | hit m=>
  intro hl f s h;simp only [bA,lu,xy] at hl;obtain ⟨g,i,l⟩:=f.last hl;rw [aY] at h;subst h;exact m.okP hl.symm i l g
 | miss _ _ q=>
  intro hl f;simp only [bA,lu,xy] at hl;exact q hl (f.last hl).1
theorem OneR.okP {p:List C} {s i:Se} {k:Int} (h:OneR p s i k) (hn:s.saved.length=s.st.chs.length) (a:okP s):okP i:=by
 have f:=a.goals;cases h with
 | big=>exact a
 | stuck=>exact a
 | fail=>exact a
 | err=>exact a
 | took g _ _ _ _ l=>
  rw [g] at f;refine l.okP hn ?_ a.openP a.saved;simp only [bq] at f ⊢;omega
 | solved g _ _ _ _ _=>
  rw [g] at f;simp only [bq] at f;refine ⟨?_,a.openP.snoc (by omega) _,a.saved⟩;simp only [AQ];omega
theorem OneR.ok {p:List C} (t:∀ cl∈p,yh cl) {s r:Se} {k:Int} (h:OneR p s r k) (a:tk p.length s):tk p.length r:=by
 have f:=a.st.goals;cases h with
 | big=>exact a
 | stuck=>exact a
 | fail=>exact a
 | err=>exact a
 | took o q i _ _ D=>
  rw [o] at f;have g:=fj a.st.good q (f _ (aM ..)).1;have B:=fF i g;exact D.ok t a.st.chs a.left a.len ⟨a.st.good,⟨g,by simp only; omega⟩,fun x m=>f x (aR _ m)⟩ (lT p _) _ rfl
 | solved o q i _ G J=>
  rw [o] at f;have g:=fj a.st.good q (f _ (aM ..)).1;have B:=fF i g;have l:=J.good a.st.good G ⟨g,by omega⟩;have hl:=l.len;exact ⟨⟨by simp only [hl]; exact l,fun x m=>by simp only [hl]; exact f x (aR _ m),a.st.chs⟩,a.left,a.len⟩
theorem BackR.ok {p:List C} (g:∀ cl∈p,yh cl) {cs:List Ch} {f:List (List Sp)} {o:Option Se} (h:BackR p cs f o):cs.length=f.length->(∀ c∈cs,sv c)->(∀ c∈cs,∀ i∈c.left,0<=i/\i<p.length)->∀ s,o=some s->tk p.length s:=by
 induction h with
 | nil=>intro _ _ _ s h; cases h
 | hit l=>
  intro hl a hf s h;simp only [bA,lu,xy] at hl;exact l.ok g (fun d hd=>a d (cZ _ hd)) (fun d hd=>hf d (cZ _ hd)) hl.symm (a _ (by simp)) (hf _ (by simp)) s h
 | miss _ _ m=>
  intro hl a hf;simp only [bA,lu,xy] at hl;exact m hl (fun d hd=>a d (cZ _ hd)) (fun d hd=>hf d (cZ _ hd))
theorem Srch.ok {p:List C} (l:∀ cl∈p,yh cl) {n:Nat} {s:Se} {o:Option Se} (h:Srch p n s o):tk p.length s->okP s->∀ t,o=some t->tk p.length t/\okP t/\t.st.goals=[]:=by
 induction h with
 | done r=>intro f i t h; rw [aY] at h; subst h; exact ⟨f,i,r⟩
 | out=>intro _ _ t h; cases h
 | halt=>intro _ _ t h; cases h
 | stop=>intro _ _ t h; cases h
 | step r f _ B=>exact fun g m=>B (f.ok l g) (f.okP g.len m)
 | back r f i _ B=>
  intro g m;have a:=f.ok l g;have q:=f.okP g.len m;exact B (i.ok l a.len.symm a.st.chs a.left _ rfl) (i.okP a.len.symm q.saved _ rfl)
end
section
open Go Go.ChangeShapes Go.WideShapes Go.ChangeAt Go.RowKit

inductive PF where
 | mk (goal:T) (clause:Int) (kids:List PF)
def PF.goal:PF->T
 | .mk g _ _=>g
def PF.clause:PF->Int
 | .mk _ c _=>c
def PF.kids:PF->List PF
 | .mk _ _ ks=>ks
theorem PF.ind {p:PF->Prop} (h:∀ g c ks,(∀ t∈ks,p t)->p (.mk g c ks)) (t:PF):p t:=
 PF.rec (motive_1:=p) (motive_2:=fun l=>∀ t∈l,p t) (fun g c ks i=>h g c ks i) (by simp) (fun a l m o t f=>by
  rcases bY.1 f with rfl|f
  ·exact m
  ·exact o t f) t
inductive RdF (S:ae):List Value->PF->Prop
 | nil {a0 a1 a2 a3:Value} {g:T} {c:Int} {a:Option Addr} {cap:Nat} (hg:RdT S [a0,a1,a2,a3] g) (hn:inI c) (hc:cap<=maxLen) :
   RdF S [a0,a1,a2,a3,.int .i64 c,.slice a 0 cap] (.mk g c [])
 | cons {a0 a1 a2 a3:Value} {g:T} {n:Int} {kids:List PF} {b o cap:Nat} {c:Array Value} {E:TypeId} {fz:Nat × Nat} (hg:RdT S [a0,a1,a2,a3] g) (hn:inI n) (hl:kids.length<=cap) (hc:cap<=maxLen)
   (hS:S b=some (.cells c E fz)) (h:∀ i (h:i<kids.length),RdF S (aX c (o+i * 6) 6) kids[i]) :
   RdF S [a0,a1,a2,a3,.int .i64 n,.slice (some ⟨b,o,none⟩) kids.length cap] (.mk g n kids)
theorem RdF.iff {S:ae} {cs:List Value} {x:PF}:RdF S cs x ↔
  ∃ kv ks,cs=[.int .i64 x.goal.kind,.int .i64 x.goal.n,.string x.goal.name,kv,.int .i64 x.clause,ks]/\RdT S [.int .i64 x.goal.kind,.int .i64 x.goal.n,.string x.goal.name,kv] x.goal/\inI x.clause/\RdSl S 6 (RdF S) ks x.kids:=by
 constructor
 ·intro h;cases h with
  | nil f hn hc=>
   obtain ⟨kv,e,_⟩:=RdT.iff.1 f;simp only [dK,gL] at e;obtain ⟨rfl,rfl,rfl,rfl⟩:=e;exact ⟨_,_,rfl,f,hn,_,_,rfl,bk _,hc,.inl rfl⟩
  | cons f hn hl hc i h=>
   obtain ⟨kv,e,_⟩:=RdT.iff.1 f;simp only [dK,gL] at e;obtain ⟨rfl,rfl,rfl,rfl⟩:=e;exact ⟨_,_,rfl,f,hn,_,_,rfl,hl,hc,.inr ⟨_,_,_,_,_,rfl,i,h⟩⟩
 ·obtain ⟨g,n,kids⟩:=x;rintro ⟨kv,ks,rfl,f,hn,a,cap,rfl,hl,hc,h⟩;rcases h with h|⟨b,o,c,E,l,rfl,i,h⟩
  ·simp only [PF.kids] at h;subst h;exact RdF.nil f hn hc
  ·exact RdF.cons f hn hl hc i h
theorem RdF.length {S:ae} {cs:List Value} {x:PF} (h:RdF S cs x):cs.length=6:=by
 obtain ⟨_,_,rfl,_⟩:=RdF.iff.1 h; rfl
theorem RdF.one {S:ae} {cs:List Value} {x:PF} (h:RdF S cs x):∀ u∈cs,u.oneCell'=true:=by
 obtain ⟨kv,ks,rfl,g,_,a,cap,rfl,_⟩:=RdF.iff.1 h;have:=g.one kv (by simp);intro u f;simp at f;rcases f with rfl|rfl|rfl|rfl|rfl|rfl <;> first|rfl|exact this
theorem RdF.mono {S S':ae} (a:Sle S S') {cs:List Value} {x:PF} (h:RdF S cs x):RdF S' cs x:=by
 induction h with
 | nil f hn hc=>exact RdF.nil (f.mono a) hn hc
 | cons f hn hl hc g _ i=>exact RdF.cons (f.mono a) hn hl hc (a _ _ g) i
inductive TrF:bh->List Value->PF->Prop
 | nil {L:bh} {a0 a1 a2 a3:Value} {g:T} {n:Int} {a:Option Addr} {cap:Nat} (hg:TrT L [a0,a1,a2,a3] g) (hn:inI n) (hc:cap<=maxLen) :
   TrF L [a0,a1,a2,a3,.int .i64 n,.slice a 0 cap] (.mk g n [])
 | cons {L:bh} {a0 a1 a2 a3:Value} {g:T} {n:Int} {kids:List PF} {b cap:Nat} {c:Array Value} {E:TypeId} {Ls:List bh} (hg:TrT L [a0,a1,a2,a3] g) (hn:inI n) (hl:kids.length<=cap) (hc:cap<=maxLen)
   (hLs:Ls.length=kids.length) (hsz:cap * 6<=c.size) (h:∀ i (h:i<kids.length) (h':i<Ls.length),TrF Ls[i] (aX c (i * 6) 6) kids[i]) :
   TrF (L++(b,.cells c E)::Ls.flatten) [a0,a1,a2,a3,.int .i64 n,.slice (some ⟨b,0,none⟩) kids.length cap] (.mk g n kids)
theorem TrF.iff {L:bh} {cs:List Value} {x:PF}:TrF L cs x ↔
  ∃ L1 L2 kv ks,L=L1++L2/\cs=[.int .i64 x.goal.kind,.int .i64 x.goal.n,.string x.goal.name,kv,.int .i64 x.clause,ks]/\TrT L1 [.int .i64 x.goal.kind,.int .i64 x.goal.n,.string x.goal.name,kv] x.goal/\inI x.clause/\TrSl 6 TrF L2 ks x.kids:=by
 constructor
 ·intro h;cases h with
  | nil f hn hc=>
   obtain ⟨kv,e,_⟩:=TrT.iff.1 f;simp only [dK,gL] at e;obtain ⟨rfl,rfl,rfl,rfl⟩:=e;exact ⟨_,[],_,_,(bV _).symm,rfl,f,hn,_,_,rfl,bk _,hc,.inl ⟨rfl,rfl⟩⟩
  | cons f hn hl hc i l h=>
   obtain ⟨kv,e,_⟩:=TrT.iff.1 f;simp only [dK,gL] at e;obtain ⟨rfl,rfl,rfl,rfl⟩:=e;exact ⟨_,_,_,_,rfl,rfl,f,hn,_,_,rfl,hl,hc,.inr ⟨_,_,_,_,rfl,rfl,i,l,h⟩⟩
 ·obtain ⟨g,n,kids⟩:=x;rintro ⟨L1,L2,kv,ks,rfl,rfl,f,hn,a,cap,rfl,hl,hc,h⟩;rcases h with ⟨h,rfl⟩|⟨b,c,E,Ls,rfl,rfl,i,l,h⟩
  ·simp only [PF.kids] at h;subst h;rw [bV];exact TrF.nil f hn hc
  ·exact TrF.cons f hn hl hc i l h
theorem TrF.length {L:bh} {cs:List Value} {x:PF} (h:TrF L cs x):cs.length=6:=by
 obtain ⟨_,_,_,_,_,rfl,_⟩:=TrF.iff.1 h; rfl
theorem TrF.one {L:bh} {cs:List Value} {x:PF} (h:TrF L cs x):∀ u∈cs,u.oneCell'=true:=by
 obtain ⟨_,_,kv,ks,_,rfl,g,_,a,cap,rfl,_⟩:=TrF.iff.1 h;have:=g.one kv (by simp);intro u f;simp at f;rcases f with rfl|rfl|rfl|rfl|rfl|rfl <;> first|rfl|exact this
theorem TrF.rd {S:ae} {L:bh} {cs:List Value} {x:PF} (h:TrF L cs x) (a:Ins S L):RdF S cs x:=by
 induction h with
 | nil f hn hc=>exact RdF.nil (f.rd a) hn hc
 | cons f hn hl hc m q h r=>
  refine RdF.cons (f.rd a.left) hn hl hc (a.right _ (aM ..)) (o:=0) fun i g=>?_;rw [cP];exact r i g (by omega) (D5 (fun p l=>a.right p (aR _ l)) (by omega))
mutual
def wF:PF->Nat
 | .mk g _ ks=>wT g+ks.length+wFL ks
def wFL:List PF->Nat
 | []=>0
 | t::ts=>wF t+wFL ts
end
section
attribute [local irreducible] Run CondV aq aK
end
section
variable {H:Type} {enc:TypeId × Value->H} {W:World} {sp:Nat->Bool} {held:Bool}
end
end
section
open Go Go.RowKit
section
attribute [local irreducible] Run CondV aq aK
end
def ZG (g:T) (c:Int) (l:Nat):Bool:=eN g && ((decide (-1<=c) && decide (c<=19)) && decide (l<=6))
mutual
def Zy:PF->Int->Bool
 | .mk g c ks,d=>decide (1<=d) && (ZG g c ks.length && XU ks (d - 1))
def XU:List PF->Int->Bool
 | [],_=>true
 | t::ts,d=>Zy t d && XU ts d
end
mutual
def ZD:PF->Int
 | .mk _ _ ks=>1+XZ ks
def XZ:List PF->Int
 | []=>0
 | t::ts=>ZD t+XZ ts
end
def YH (x:PF):Bool:=Zy x 20 && decide (ZD x<=60)
section
attribute [local irreducible] Run CondV aq aK
end
end
section
open Go Go.RowKit
section
variable {S:ae} {ys:List Nat} {v:Value}
attribute [local irreducible] Run CondV aq aK
end
end
section
open Go Go.RowKit

section
attribute [local irreducible] Run CondV aq aK
end
end
section
open Go Go.RowKit
mutual
def sbT (σ:Int->T):T->T
 | .mk k n s ks=>if k=1 then σ n else .mk k n s (sbL σ ks)
def sbL (σ:Int->T):List T->List T
 | []=>[]
 | t::ts=>sbT σ t::sbL σ ts
end
theorem lZ (σ:Int->T):∀ ts:List T,(sbL σ ts).length=ts.length
 | []=>rfl
 | t::ts=>by rw [sbL,bq,lZ σ ts,bq]
mutual
theorem Mo (σ τ:Int->T):∀ t:T,sbT σ (sbT τ t)=sbT (fun n=>sbT σ (τ n)) t
 | .mk k n s ks=>by
  by_cases hk:k=1
  ·rw [sbT,ai hk,sbT,ai hk]
  ·rw [sbT,ag hk,sbT,ag hk,sbT,ag hk,zD σ τ ks]
theorem zD (σ τ:Int->T):∀ ts:List T,sbL σ (sbL τ ts)=sbL (fun n=>sbT σ (τ n)) ts
 | []=>rfl
 | t::ts=>by rw [sbL,sbL,sbL,Mo σ τ t,zD σ τ ts]
end
def idS (n:Int):T:=.mk 1 n emptyB []
mutual
theorem Yk {N:Nat}:∀ t:T,okU N t->sbT idS t=t
 | .mk k n s ks,h=>by
  rw [okU] at h;by_cases hk:k=1
  ·obtain ⟨_,_,rfl,rfl⟩:=h.2.1 hk;rw [sbT,ai hk,hk,idS]
  ·rw [sbT,ag hk,Ka ks h.2.2.1]
theorem Ka {N:Nat}:∀ ts:List T,bL N ts->sbL idS ts=ts
 | [],_=>rfl
 | t::ts,h=>by
  rw [bL] at h;rw [sbL,Yk t h.1,Ka ts h.2]
end
def Agk (σ:Int->T) (st:aj):Prop:=∀ (i:Nat) (t:T),st[i]?=some (some t)->σ i=t
def Gek (st st':aj):Prop:=st'.length=st.length/\∀ (i:Nat) (t:T),st[i]?=some (some t)->st'[i]?=some (some t)
theorem Gek.refl (st:aj):Gek st st:=⟨rfl,fun _ _ h=>h⟩
theorem Gek.trans {a b c:aj} (h:Gek a b) (f:Gek b c):Gek a c:=⟨f.1.trans h.1,fun i t g=>f.2 i t (h.2 i t g)⟩
theorem Agk.less {σ:Int->T} {a b:aj} (h:Agk σ b) (f:Gek a b):Agk σ a:=fun i t g=>h i t (f.2 i t g)
theorem TZ {t u:T}:py t u=true↔t.kind=u.kind/\t.n=u.n/\t.name=u.name/\t.kids.length=u.kids.length:=by
 simp [py]
end
section
open Go Go.RowKit
section
variable {S:ae} {ys zs:List Nat} {v u:Value}
attribute [local irreducible] Run CondV aq aK
theorem RdC.cells {S:ae} {cs:List Value} {c:C} (h:RdC S cs c):∃ kv a,cs=[.int .i64 c.head.kind,.int .i64 c.head.n,.string c.head.name,kv,a]/\RdT S [.int .i64 c.head.kind,.int .i64 c.head.n,.string c.head.name,kv] c.head/\RdSl S 4 (RdT S) a c.body:=by
 obtain ⟨hd,a,rfl,g,i⟩:=h;have f:=g;obtain ⟨kv,rfl,_⟩:=RdT.iff.1 g;exact ⟨kv,a,rfl,f,i⟩
end
end
section
open Go Go.RowKit
theorem uL {t:T} (h:d6 t=true):wT t<=840:=by
 have a:=jY h;have f:=KI t a;rw [d6,bM] at h;have g:dF t<=120:=by simpa using h.2
 omega
theorem nf {g:T} (h:eN g=true):d6 g=true:=by
 rw [eN,bM] at h; exact h.1
theorem JF {g:T} (h:eN g=true):decide (g.kind=3)=true:=by
 rw [eN,bM,jc,jc] at h;rcases h.2 with h|h|h
 ·rw [ez,bM] at h; exact h.1
 ·rw [dI,bM] at h; exact h.1
 ·rw [bU,bM] at h; exact h.1
def bltF (g:T) (f:Bool):Prop:=(bU g=false/\f=false) ∨ (bU g=true/\∃ code st',Blt aa6 g code st'/\f=aaV code st')
theorem bltF.ex {g:T} (h:d6 g=true):∃ f,bltF g f:=by
 cases i:bU g with
 | false=>exact ⟨false,.inl ⟨i,rfl⟩⟩
 | true=>
  have:=uL h;obtain ⟨c,a,l⟩:=Blt.ex (Jp 26) i ⟨jY h,by omega⟩;exact ⟨_,.inr ⟨i,c,a,l,rfl⟩⟩
open Classical in
noncomputable def bltV (g:T):Bool:=if h:∃ f,bltF g f then h.choose else false
def Yc:List T->List PF->aj->Bool
 | g::gs,x::xs,st=>!ez g && ((qq g x.goal st).1 && Yc gs xs (qq g x.goal st).2)
 | _,_,_=>true
noncomputable def nodeC (p:List C) (g:T) (c:Int) (ks:List PF):Bool:=if c<0 then decide (ks.length=0) && bltV g else match p[c.toNat]? with
 | none=>false
 | some q=>decide (ks.length=q.body.length) && ((qq q.head g st0).1 && Yc q.body ks (qq q.head g st0).2)
mutual
noncomputable def chkF (p:List C):PF->Bool
 | .mk g c ks=>nodeC p g c ks && chkFL p ks
noncomputable def chkFL (p:List C):List PF->Bool
 | []=>true
 | x::xs=>chkF p x && chkFL p xs
end
noncomputable def interL (p:List C):List T->List PF->aj->Bool
 | g::gs,x::xs,st=>!ez g && ((qq g x.goal st).1 && (chkF p x && interL p gs xs (qq g x.goal st).2))
 | _,_,_=>true
theorem C9 {p:List C} (h:dc p=true) {c:C} (hc:c∈p):bt c=true:=by
 rw [dc,bM,dD] at h;exact h.2 c hc
section
attribute [local irreducible] Run CondV aq aK
end
end
section
open Go Go.RowKit
mutual
def okM:T->Prop
 | .mk k n s ks=>(k=2->-999<=n/\n<=999)/\(k≠3->s=emptyB)/\pQ ks
def pQ:List T->Prop
 | []=>True
 | t::ts=>okM t/\pQ ts
end
theorem uk:∀ {ts:List T},pQ ts->∀ t∈ts,okM t
 | t::ts,h,x,a=>by
  rw [pQ] at h;rcases bY.1 a with rfl|a
  ·exact h.1
  ·exact uk h.2 x a
theorem Sn:∀ {ts:List T},(∀ t∈ts,okM t)->pQ ts
 | [],_=>by rw [pQ]; trivial
 | t::ts,h=>by rw [pQ]; exact ⟨h t (aM ..),Sn fun u a=>h u (aR _ a)⟩
theorem okM.kids {t:T} (h:okM t):pQ t.kids:=by cases t; rw [okM] at h; exact h.2.2
mutual
theorem okM.okN:∀ {t:T},okM t->okN t
 | .mk k n s ks,h=>by
  rw [okM] at h;rw [Go.Proofs.YtgllldjiaglkcaaGreatDoor.okN];exact ⟨h.1,Nn h.2.2⟩
theorem Nn:∀ {ts:List T},pQ ts->K9 ts
 | [],_=>by rw [K9]; trivial
 | t::ts,h=>by
  rw [pQ] at h;rw [K9];exact ⟨okM.okN h.1,Nn h.2⟩
end
mutual
theorem Jr:∀ (t:T) (d:Int),iC t d=true->okM t
 | .mk k n s ks,d,h=>by
  rw [iC] at h;split at h
  ·cases h
  rw [bM] at h;obtain ⟨a,hk⟩:=h;rw [okM];have g:k=2->(-999<=n/\n<=999)/\s=emptyB:=by
   intro e;subst e;have f:eB (.mk 2 n s ks)=(decide (-999<=n) && (decide (n<=999) && (decide (s=emptyB) && decide (ks.length=0)))):=by
    rw [eB]; exact (ag (show ¬ (2:Int)=1 by decide)).trans (ai rfl)
   rw [f,bM,bM,bM] at a;exact ⟨⟨of_decide_eq_true a.1,of_decide_eq_true a.2.1⟩,of_decide_eq_true a.2.2.1⟩
  refine ⟨fun e=>(g e).1,fun e=>?_,ET ks _ hk⟩;by_cases e2:k=2
  ·exact (g e2).2
  ·have a:(if k=1 then decide (0<=n) && (decide (n<=25) && (decide (s=emptyB) && decide (ks.length=0))) else if k=2 then decide (-999<=n) && (decide (n<=999) && (decide (s=emptyB) && decide (ks.length=0))) else if k=3 then decide (n=0) && (lJ s && decide (ks.length<=4)) else false)=true:=a;rw [ag e2,ag e] at a;split at a
   ·simp only [bM,bD] at a;exact a.2.2.1
   ·cases a
theorem ET:∀ (ts:List T) (d:Int),iG ts d=true->pQ ts
 | [],_,_=>by rw [pQ]; trivial
 | t::ts,d,h=>by
  rw [iG,bM] at h;rw [pQ];exact ⟨Jr t d h.1,ET ts d h.2⟩
end
theorem AL {t:T} (h:d6 t=true):okM t:=Jr t 30 (Cg h)
mutual
theorem pr (m:Int):∀ t:T,okM t->okM (bp m t)
 | .mk k n s ks,h=>by
  rw [okM] at h;rw [bp,okM];refine ⟨fun e=>?_,h.2.1,El m ks h.2.2⟩;rw [ag (by omega)];exact h.1 e
theorem El (m:Int):∀ ts:List T,pQ ts->pQ (dM m ts)
 | [],_=>by rw [dM,pQ]; trivial
 | t::ts,h=>by
  rw [pQ] at h;rw [dM,pQ];exact ⟨pr m t h.1,El m ts h.2⟩
end
def tabM (st:aj):Prop:=∀ t,some t∈st->okM t
theorem tabM.set {st:aj} (h:tabM st) {n:Nat} {t:T} (f:okM t):tabM (st.set n (some t)):=by
 intro u a;rcases E6 a with a|a
 ·exact h u a
 ·rw [aY] at a;subst a;exact f
theorem tabM.look {st:aj} (h:tabM st) {t u:T} (hl:look st t=some u):okM u:=h u (cz (dh.1 hl).2)
theorem tabM.walk {st:aj} (h:tabM st) {t v:T} (a:dr st t v) (f:okM t):okM v:=by
 induction a with
 | stop=>exact f
 | step hl _ g=>exact g (h.look hl)
theorem tabM.grow {st:aj} (h:tabM st) (k:Nat):tabM (st++List.replicate k none):=by
 intro t a;rcases bF.1 a with a|a
 ·exact h t a
 ·have:=Sb a;cases this
theorem tabM.none (k:Nat):tabM (List.replicate k none):=by
 intro t a;have:=Sb a;cases this
def YA:Job->Prop
 | .one a b=>okM a/\okM b
 | .list xs ys=>(∀ a∈xs,okM a)/\∀ b∈ys,okM b
theorem Uni.okM {st l:aj} {j:Job} {r:Bool} (t:Uni st j r l):tabM st->YA j->tabM l:=by
 induction t with
 | same=>exact fun h _=>h
 | occA=>exact fun h _=>h
 | occB=>exact fun h _=>h
 | clash=>exact fun h _=>h
 | nil=>exact fun h _=>h
 | bindA g i _ _ _=>exact fun h f=>h.set (h.walk i f.2)
 | bindB g i _ _ _=>exact fun h f=>h.set (h.walk g f.1)
 | kids g i _ _ _ _ m=>exact fun h f=>m h ⟨uk (h.walk g f.1).kids,uk (h.walk i f.2).kids⟩
 | stop _ m=>exact fun h f=>m h ⟨f.1 _ (aM ..),f.2 _ (aM ..)⟩
 | go _ _ o q=>
  exact fun h f=>q (o h ⟨f.1 _ (aM ..),f.2 _ (aM ..)⟩) ⟨fun a g=>f.1 a (aR _ g),fun b i=>f.2 b (aR _ i)⟩
theorem Res.okM {st:aj} (m:tabM st) {j:M8} (h:Res st j):match j with
  | .one t u=>okM t->okM u
  | .list ts us=>(∀ t∈ts,okM t)->∀ u∈us,okM u:=by
 induction h with
 | @one t v us o _ q=>
  intro f;have g:=m.walk o f;have hk:=q (uk g.kids);cases v;rw [Go.Proofs.YtgllldjiaglkcaaGreatDoor.okM] at g ⊢;exact ⟨g.1,g.2.1,Sn hk⟩
 | nil=>intro _ u a; cases a
 | cons _ _ i l=>
  intro f u a;rcases bY.1 a with rfl|a
  ·exact i (f _ (aM ..))
  ·exact l (fun t h=>f t (aR _ h)) u a
theorem okM.kd {g:T} (h:okM g) (i:Nat):okM (kd g i):=by
 rw [Go.Proofs.YtgllldjiaglkcaaGreatDoor.kd,x0];cases e:g.kids[i]? with
 | none=>
  simp only [Option.getD_none];rw [zT,Go.Proofs.YtgllldjiaglkcaaGreatDoor.okM,pQ];exact ⟨fun e=>(by cases e),fun _=>rfl,trivial⟩
 | some u=>exact uk h.kids u (cz e)
theorem XO {n:Int} (h:Sm n):okM (LP n):=by
 rw [LP,okM,pQ];exact ⟨fun _=>h,fun _=>rfl,trivial⟩
def ZW:BJ->Prop
 | .done _=>True
 | .uni a b=>YA (.one a b)
 | .not a b=>YA (.one a b)
theorem YV {g:T} (h:okM g):ZW (gA g):=by
 unfold gA;split
 ·trivial
 split
 ·trivial
 split
 ·exact ⟨h.kd _,h.kd _⟩
 split
 ·exact ⟨h.kd _,h.kd _⟩
 split
 ·trivial
 split
 ·split
  ·trivial
  ·exact ⟨h.kd _,XO (yn _ (h.kd _).okN)⟩
 split
 ·unfold Ig;split
  ·trivial
  split
  ·trivial
  split
  ·trivial
  ·exact ⟨h.kd _,(h.kd _).kd _⟩
 split
 ·trivial
 ·trivial
theorem Blt.okM {st f:aj} {g:T} {c:Int} (i:tabM st) (m:okM g) (h:Blt st g c f):tabM f:=by
 have l:=YV m;unfold Blt at h
 match hb:gA g,h,l with
 | .done c,h,_=>exact h.2 ▸ i
 | .uni a b,⟨r,hu,_⟩,l=>exact hu.okM i l
 | .not a b,h,_=>exact h.1 ▸ i
end
section
open Go Go.RowKit
structure QO (cl:C):Prop where
 cf:yh cl
 hd:okM cl.head
 bd:∀ t∈cl.body,okM t
 fr:tY cl<=26
 ln:cl.body.length<=6
 w:wC cl<=1048576
 vs:∀ x∈c7 (cl.head::cl.body) [],0<=x/\x<1000000
mutual
theorem Ua {M N:Nat}:∀ t:T,okU M t->(∀ m∈vT t,m<N)->okU N t
 | .mk k n s ks,h,hv=>by
  rw [okU] at h ⊢;rw [vT] at hv;refine ⟨h.1,fun e=>?_,?_,h.2.2.2⟩
  ·obtain ⟨a,g,f⟩:=h.2.1 e;have:=hv n.toNat (by rw [ai e]; exact bK.2 rfl);exact ⟨a,by omega,f⟩
  ·by_cases e:k=1
   ·rw [(h.2.1 e).2.2.2,bL]; trivial
   ·rw [ag e] at hv;exact AD ks h.2.2.1 hv
theorem AD {M N:Nat}:∀ ts:List T,bL M ts->(∀ m∈vTL ts,m<N)->bL N ts
 | [],_,_=>by rw [bL]; trivial
 | t::ts,h,hv=>by
  rw [bL] at h ⊢;rw [vTL] at hv;exact ⟨Ua t h.1 fun m a=>hv m (cZ _ a),AD ts h.2 fun m a=>hv m (fb _ a)⟩
end
theorem OB {cl:C} (h:bt cl=true):QO cl:=by
 obtain ⟨Y,Z,_⟩:=dU h;have D:bL 26 (cl.head::cl.body):=by rw [bL]; exact ⟨Y,gw Z⟩
 have g:=qt (cl.head::cl.body) [] D;have G:=h;rw [bt] at G;simp only [bM,bD,dD] at G;obtain ⟨hl,o,q,_⟩:=G;have J:∀ m∈vTL (cl.head::cl.body),m<26:=Pt _ D;have M:∀ m∈vTL (cl.head::cl.body),m<(tY cl).toNat:=by
  intro m B;have:=(Iy (c7 (cl.head::cl.body) []) 0).2 m ((g m).2 (.inr ⟨m,B,rfl⟩));rw [tY];omega
 have N:=AD _ D M;rw [bL] at N;have a0:=uL q;have r:∀ t∈cl.body,wT t<=840:=fun t l=>uL (nf (o t l));have i:∀ x∈c7 (cl.head::cl.body) [],0<=x/\x<26:=by
  intro x f;rcases (g x).1 f with f|⟨m,B,rfl⟩
  ·cases f
  ·have:=J m B;omega
 have O:∀ ts:List T,(∀ t∈ts,wT t<=840)->wL ts<=841 * ts.length:=by
  intro ts;induction ts with
  | nil=>intro _; simp [wL]
  | cons t ts ih=>
   intro U;have a:=U t (aM ..);have b:=ih fun u V=>U u (aR _ V);simp only [wL,bq];omega
 have:=O _ r;refine ⟨⟨⟨N.1,by omega⟩,fun t l=>⟨fM N.2 t l,by have:=r t l; omega⟩⟩,AL q,fun t l=>AL (nf (o t l)),?_,hl,?_,fun x f=>⟨(i x f).1,by have:=(i x f).2; omega⟩⟩
 ·exact Js 26 _ 0 (by omega) fun x f=>(i x f).2
 ·unfold wC; omega
structure okRk (k:Nat) (c:Ch):Prop where
 nb:c.binds.length<=26+26 * k
 nr:c.rest.length<=1+6 * k
 tab:tabM c.binds
 goal:okM c.goal
 rest:∀ g∈c.rest,okM g.1
 pos:0<c.binds.length
def okLp (N:Nat) (l:List Sp):Prop:=∀ x∈l,(okU N x.goal/\wT x.goal<=1048576)/\0<=x.body/\x.body<=6/\-1<=x.clause/\x.clause<=1000000
structure okXk (k:Nat) (s:Se):Prop where
 nb:s.st.binds.length<=26+26 * k
 ng:s.st.goals.length<=1+6 * k
 nc:s.st.chs.length<=k
 ns:s.steps.length<=k
 tab:tabM s.st.binds
 goals:∀ g∈s.st.goals,okM g.1
 chs:∀ c∈s.st.chs,okRk k c
 steps:okLp s.st.binds.length s.steps
 saved:∀ i (h:i<s.st.chs.length) (h':i<s.saved.length),okLp s.st.chs[i].binds.length s.saved[i]
 nv:∀ l∈s.saved,l.length<=k
 pos:0<s.st.binds.length
theorem okRk.up {k:Nat} {c:Ch} (h:okRk k c):okRk (k+1) c:=⟨by have:=h.nb; omega,by have:=h.nr; omega,h.tab,h.goal,h.rest,h.pos⟩
theorem okLp.mono {N M:Nat} {l:List Sp} (h:okLp N l) (f:N<=M):okLp M l:=fun x a=>⟨⟨gN f _ (h x a).1.1,(h x a).1.2⟩,(h x a).2⟩
theorem okXk.up {k:Nat} {s:Se} (h:okXk k s):okXk (k+1) s:=
 ⟨by have:=h.nb; omega,by have:=h.ng; omega,by have:=h.nc; omega,by have:=h.ns; omega,h.tab,h.goals,fun c hc=>(h.chs c hc).up,h.steps,h.saved,fun l hl=>by have:=h.nv l hl; omega,h.pos⟩
theorem FirstL.of {p:List C} {chs:List Ch} {c:Ch} {l:List Int} {o:Option (St6 × Int × List Int)} (h:FirstL p chs c l o):∀ s i r,o=some (s,i,r)->
  ∃ (n:Nat) (cl:C) (st:aj),i=n/\p[n]?=some cl/\s=rS chs c cl [] st/\Uni (Va c.binds cl) (.one c.goal (bp c.binds.length cl.head)) true st:=by
 induction h with
 | nil=>intro s i r h; cases h
 | miss _ _ a=>exact a
 | hit f=>
  intro s i r h;simp only [aY,cE] at h;obtain ⟨rfl,rfl,rfl⟩:=h;cases f with
  | hit g m=>exact ⟨_,_,_,rfl,g,rfl,m⟩
  | miss _ _ h=>cases h
theorem TakeR.okXk {p:List C} (hp:∀ cl∈p,QO cl) (a3:p.length<=1000000) {k:Nat} {s s':Se} {c:Ch} (h:TakeR p s c (some s')) (hc:sv c) (a:okRk k c) (hn:s.saved.length=s.st.chs.length)
  (U:∀ d∈s.st.chs,okRk k d) (a4:s.st.chs.length<=k) (r:okLp c.binds.length s.steps) (a5:s.steps.length<=k)
  (B:∀ i (h:i<s.st.chs.length) (h':i<s.saved.length),okLp s.st.chs[i].binds.length s.saved[i]) (D:∀ l∈s.saved,l.length<=k):okXk (k+1) s':=by
 cases h with
 | @yes u i l hF=>
  obtain ⟨n,cl,st,rfl,V,rfl,hu⟩:=hF.of _ _ _ rfl;have G:=hp cl (cz V);obtain ⟨m,_⟩:=hu.good (A4 hc cl) (Mg hc G.cf);have J:tabM st:=hu.okM (a.tab.grow _) ⟨a.goal,pr _ _ G.hd⟩;have a2:=m.len;have a6:=G.fr;have a7:=G.ln;have Y:=a.nb;have Z:=a.nr;have M:=a.pos;have a0:okRk (k+1) ⟨c.goal,c.rest,l,c.binds⟩:=okRk.up ⟨Y,Z,a.tab,a.goal,a.rest,M⟩;refine ⟨?_,?_,?_,?_,J,?_,?_,?_,?_,?_,?_⟩
  ·simp only [mV,rS]; omega
  ·simp only [mV,rS,bA,jO]; omega
  ·simp only [mV,bA]; split <;> simp <;> omega
  ·simp only [mV,bA,lu]; omega
  ·intro g m;simp only [mV,rS] at m;rcases bF.1 m with m|m
   ·obtain ⟨t,ht,rfl⟩:=dp.1 m;exact pr _ _ (G.bd t ht)
   ·exact a.rest g m
  ·intro d hd;simp only [mV] at hd;rcases bF.1 hd with hd|hd
   ·exact (U d hd).up
   ·split at hd
    ·cases hd
    ·rw [bK] at hd;subst hd;exact a0
  ·intro x o;simp only [mV,rS] at o ⊢;rcases bF.1 o with o|o
   ·exact r.mono (by omega) x o
   ·rw [bK] at o;subst o;simp only [cu,V,Option.elim_some];exact ⟨⟨gN (by omega) _ hc.goal.1,hc.goal.2⟩,by omega,by omega,by omega,by have:=(fa.1 V).1; omega⟩
  ·intro j N O;simp only [mV] at N O ⊢;by_cases hl:l=[]
   ·subst hl;simp only [ai,bV] at N O ⊢;exact B j N O
   ·simp only [ag hl,bA,lu] at N O ⊢;by_cases hk:j<s.st.chs.length
    ·rw [fA hk,fA (by omega)];exact B j hk (by omega)
    ·have a1:j=s.st.chs.length:=by omega
     subst a1;rw [eZ (aS _),eZ (by omega)];simp only [hn,ey,lc];exact r
  ·intro q f;simp only [mV] at f;rcases bF.1 f with f|f
   ·have:=D q f; omega
   ·split at f
    ·cases f
    ·rw [bK] at f;subst f;omega
  ·simp only [mV,rS]; omega
def okBL (cs:List Ch) (ss:List (List Sp)):Prop:=∀ i (h:i<cs.length) (h':i<ss.length),okLp cs[i].binds.length ss[i]
theorem okBL.last {cs:List Ch} {a:List (List Sp)} {c:Ch} {t:List Sp} (h:okBL (cs++[c]) (a++[t])) (hl:cs.length=a.length):okBL cs a/\okLp c.binds.length t:=by
 constructor
 ·intro i f g;have:=h i (by simp; omega) (by simp; omega);rw [fA f,fA g] at this;exact this
 ·have:=h cs.length (by simp) (by simp [hl]);rw [eZ (aS _),eZ (by omega)] at this;simp only [hl,ey,lc] at this;exact this
theorem BackR.okXk {p:List C} (q:∀ cl∈p,QO cl) (i:p.length<=1000000) {k:Nat} {cs:List Ch} {f:List (List Sp)} {o:Option Se} (h:BackR p cs f o):cs.length=f.length->(∀ c∈cs,sv c/\okRk k c)->cs.length<=k->okBL cs f->(∀ l∈f,l.length<=k)->∀ s,o=some s->Go.Proofs.YtgllldjiaglkcaaGreatDoor.okXk (k+1) s:=by
 induction h with
 | nil=>intro _ _ _ _ _ s h; cases h
 | hit B=>
  intro hl a hk m g s h;simp only [bA,lu,xy] at hl hk;rw [aY] at h;subst h;obtain ⟨r,t⟩:=m.last hl;exact B.okXk q i (a _ (by simp)).1 (a _ (by simp)).2 hl.symm (fun d hd=>(a d (cZ _ hd)).2) (by simp only; omega) t (g _ (by simp)) r fun l hl=>g l (cZ _ hl)
 | miss _ _ D=>
  intro hl a hk m g;simp only [bA,lu,xy] at hl hk;exact D hl (fun d hd=>a d (cZ _ hd)) (by omega) (m.last hl).1 fun l hl=>g l (cZ _ hl)
theorem OneR.okXk {p:List C} (U:∀ cl∈p,QO cl) (G:p.length<=1000000) {k:Nat} {s J:Se} {e:Int} (h:OneR p s J e) (t:tk p.length s) (a:okXk k s):okXk (k+1) J/\(e=-2->J=s):=by
 have m:=t.st.goals;have f:=a.goals;cases h with
 | big=>exact ⟨a.up,fun _=>rfl⟩
 | stuck=>exact ⟨a.up,fun _=>rfl⟩
 | fail=>exact ⟨a.up,fun _=>rfl⟩
 | err=>exact ⟨a.up,fun _=>rfl⟩
 | @took g rest u _ B D r _ _ ht=>
  rw [B] at m f;have i:=fj t.st.good D (m _ (aM ..)).1;have V:=fF r i;have o:okM u:=Res.okM a.tab D (f _ (aM ..));have q:=a.ng;rw [B,bq] at q;refine ⟨ht.okXk U G ⟨t.st.good,⟨i,by simp only; omega⟩,fun x a=>m x (aR _ a)⟩ ⟨a.nb,by simp only; omega,a.tab,o,fun x a=>f x (aR _ a),a.pos⟩ t.len a.chs a.nc a.steps a.ns a.saved a.nv,fun e=>(by cases e)⟩
 | @solved g rest u st B D r _ hb O=>
  rw [B] at m f;have i:=fj t.st.good D (m _ (aM ..)).1;have V:=fF r i;have o:okM u:=Res.okM a.tab D (f _ (aM ..));have M:=O.good t.st.good hb ⟨i,by omega⟩;have hl:=M.len;have q:=a.ng;rw [B,bq] at q;have Y:=a.nb;have Z:=a.ns;have N:=a.pos;refine ⟨⟨by simp only; omega,by simp only; omega,by have:=a.nc; simp only; omega,by simp only [bA,lu]; omega,O.okM a.tab o,fun x h=>f x (aR _ h),fun c hc=>(a.chs c hc).up,?_,a.saved,fun l hl=>by have:=a.nv l hl; omega,by simp only; omega⟩,fun e=>(by cases e)⟩;intro x h;simp only at h ⊢;rw [hl];rcases bF.1 h with h|h
  ·exact a.steps x h
  ·rw [bK] at h;subst h;exact ⟨⟨i,by simp only; omega⟩,by simp,by simp,by simp,by simp⟩
theorem Srch.okXk {p:List C} (i:∀ cl∈p,QO cl) (f:p.length<=1000000) {n:Nat} {s:Se} {o:Option Se} (h:Srch p n s o):∀ k,tk p.length s->Go.Proofs.YtgllldjiaglkcaaGreatDoor.okXk k s->∀ t,o=some t->Go.Proofs.YtgllldjiaglkcaaGreatDoor.okXk (k+n) t:=by
 induction h with
 | @done n s r=>
  intro k l q t h;rw [aY] at h;subst h;induction n with
  | zero=>exact q
  | succ n m=>exact m.up
 | out=>intro _ _ _ t h; cases h
 | halt=>intro _ _ _ t h; cases h
 | stop=>intro _ _ _ t h; cases h
 | @step n _ _ _ r l _ m=>
  intro k a g t h;have:=m (k+1) (l.ok (fun cl hc=>(i cl hc).cf) a) (l.okXk i f a g).1 t h
  rwa [show k+(n+1)=k+1+n by omega]
 | @back n _ D _ _ r l q _ m=>
  intro k a g t h;have B:=l.ok (fun cl hc=>(i cl hc).cf) a;have e:=(l.okXk i f a g).2 rfl;subst e;have:=m (k+1) (q.ok (fun cl hc=>(i cl hc).cf) a.len.symm a.st.chs a.left _ rfl) (q.okXk i f a.len.symm (fun c hc=>⟨a.st.chs c hc,g.chs c hc⟩) g.nc g.saved g.nv _ rfl) t h
  rwa [show k+(n+1)=k+1+n by omega]
end
section
open Go Go.RowKit
structure GI where
 t:T
 cut:Int
 up:Int
structure CI where
 goal:T
 node:Int
 rest:List GI
 left:List Int
 binds:aj
 taken:Nat
structure NI where
 goal:T
 up:Int
 clause:Int
structure SI where
 st:aj
 goals:List GI
 chs:List CI
 nodes:List NI
def g26 (st:aj):aj:=st++List.replicate 26 none
def bI (st:aj) (n:Nat):aj:=st++List.replicate (n - st.length) none
theorem kD (st:aj):(g26 st).length=st.length+26:=by simp [g26]
theorem ce {st:aj} {n:Nat} (h:st.length<=n):(bI st n).length=n:=by simp [bI]; omega
theorem qJ {st:aj} {n:Nat} (h:st.length<=n):g26 (bI st n)=bI st (n+26):=by
 unfold g26 bI;rw [dx,Qz]
 congr 2
 omega
theorem g7 (st:aj):bI st st.length=st:=by simp [bI]
theorem Qq (st:aj):g26 st=bI st (st.length+26):=by
 rw [<- qJ (aS _),g7]
structure HI where
 i:Nat
 cl:C
 by_:Nat
 l:List Int
 st:aj
inductive TryI (p:List C) (g:T):List Int->aj->Option HI->Nat->Prop
 | nil {st:aj}:TryI p g [] st none st.length
 | hit {i:Nat} {l:List Int} {cl:C} {st st':aj}:p[i]?=some cl->Uni (g26 st) (.one g (bp st.length cl.head)) true st'->TryI p g ((i:Int)::l) st (some ⟨i,cl,st.length,l,st'⟩) (st.length+26)
 | miss {i:Nat} {l:List Int} {cl:C} {st st':aj} {o:Option HI} {n:Nat}:p[i]?=some cl->Uni (g26 st) (.one g (bp st.length cl.head)) false st'->TryI p g l (g26 st) o n->TryI p g ((i:Int)::l) st o n
def fy (cl:C) (by_:Nat) (cut up:Int) (rest:List GI):List GI:=cl.body.map (fun t=>⟨bp by_ t,cut,up⟩)++rest
def LQ (ns:List NI) (at_:Nat) (i:Int):List NI:=ns.modify at_ fun x=>⟨x.goal,x.up,i⟩
def gC (chs:List CI) (nodes:List NI) (g:T) (at_:Int) (rest:List GI) (b:aj) (r:HI):SI:=
 ⟨r.st,fy r.cl r.by_ chs.length at_ rest,chs++(if r.l=[] then [] else [⟨g,at_,rest,r.l,b,nodes.length⟩]),LQ nodes at_.toNat r.i⟩
inductive BackI (p:List C):List CI->Nat->List NI->Option SI->Prop
 | nil {n:Nat} {ns:List NI}:BackI p [] n ns none
 | hit {cs:List CI} {c:CI} {n m:Nat} {ns:List NI} {r:HI}:TryI p c.goal c.left (bI c.binds n) (some r) m->BackI p (cs++[c]) n ns (some (gC cs (ns.take c.taken) c.goal c.node c.rest (bI c.binds n) r))
 | miss {cs:List CI} {c:CI} {n m:Nat} {ns:List NI} {o:Option SI}:TryI p c.goal c.left (bI c.binds n) none m->BackI p cs m (ns.take c.taken) o->BackI p (cs++[c]) n ns o
def Ni (c:Int):Int:=if c=2 then 4 else if c=3 then 5 else if c=4 then 6 else 7
inductive StepI (p:List C) (nc:Bool) (s:SI):Option SI->Int->Prop
 | large {g:GI} {gs:List GI} {t:T}:s.goals=g::gs->Res s.st (.one g.t t)->bv t=false->StepI p nc s none 3
 | noCut {g:GI} {gs:List GI} {t:T}:s.goals=g::gs->Res s.st (.one g.t t)->bv t=true->ez t=true->nc=true->StepI p nc s none 0
 | cut {g:GI} {gs:List GI} {t:T}:s.goals=g::gs->Res s.st (.one g.t t)->bv t=true->ez t=true->nc=false->
   StepI p nc s (some ⟨s.st,gs,s.chs.take g.cut.toNat,s.nodes++[⟨t,g.up,-1⟩]⟩) (-1)
 | solved {g:GI} {gs:List GI} {t:T} {st:aj}:s.goals=g::gs->Res s.st (.one g.t t)->bv t=true->ez t=false->bU t=true->Blt s.st t 0 st->
   StepI p nc s (some ⟨st,gs,s.chs,s.nodes++[⟨t,g.up,-1⟩]⟩) (-1)
 | fail {g:GI} {gs:List GI} {t:T} {st:aj} {o:Option SI}:s.goals=g::gs->Res s.st (.one g.t t)->bv t=true->ez t=false->bU t=true->Blt s.st t 1 st->
   BackI p s.chs s.st.length (s.nodes++[⟨t,g.up,-1⟩]) o->StepI p nc s o (if o.isSome then -1 else 0)
 | err {g:GI} {gs:List GI} {t:T} {st:aj} {c:Int}:s.goals=g::gs->Res s.st (.one g.t t)->bv t=true->ez t=false->bU t=true->Blt s.st t c st->c≠0->c≠1->StepI p nc s none (Ni c)
 | unknown {g:GI} {gs:List GI} {t:T}:s.goals=g::gs->Res s.st (.one g.t t)->bv t=true->ez t=false->bU t=false->eY p t=[]->StepI p nc s none 8
 | took {g:GI} {gs:List GI} {t:T} {r:HI} {m:Nat}:s.goals=g::gs->Res s.st (.one g.t t)->bv t=true->ez t=false->bU t=false->eY p t≠[]->
   TryI p t (eY p t) s.st (some r) m->StepI p nc s (some (gC s.chs (s.nodes++[⟨t,g.up,-1⟩]) t s.nodes.length gs s.st r)) (-1)
 | back {g:GI} {gs:List GI} {t:T} {m:Nat} {o:Option SI}:s.goals=g::gs->Res s.st (.one g.t t)->bv t=true->ez t=false->bU t=false->eY p t≠[]->
   TryI p t (eY p t) s.st none m->BackI p s.chs m (s.nodes++[⟨t,g.up,-1⟩]) o->StepI p nc s o (if o.isSome then -1 else 0)
def ul (n:Int):T:=.mk 1 n emptyB []
def ValsI (st:aj) (vars:List Int) (o:Option (List T)):Prop:=∃ us,Res st (.list (vars.map ul) us)/\
 o=if us.all bv=true/\(cU us []).length<=26 then some (fC (cU us []) us) else none
inductive RunI (p:List C) (vars:List Int) (most:Nat):Nat->SI->List (List T)->List (List T) × Int->Prop
 | fuel {s:SI} {out:List (List T)}:s.goals≠[]->RunI p vars most 0 s out (out,2)
 | stop {n:Nat} {s:SI} {out:List (List T)} {e:Int}:s.goals≠[]->StepI p false s none e->RunI p vars most (n+1) s out (out,e)
 | step {n:Nat} {s s':SI} {out:List (List T)} {e:Int} {r:List (List T) × Int}:s.goals≠[]->StepI p false s (some s') e->RunI p vars most n s' out r->RunI p vars most (n+1) s out r
 | more {n:Nat} {s:SI} {out:List (List T)}:s.goals=[]->out.length=most->RunI p vars most n s out (out,1)
 | large {n:Nat} {s:SI} {out:List (List T)}:s.goals=[]->out.length≠most->ValsI s.st vars none->RunI p vars most n s out (out,3)
 | last {n:Nat} {s:SI} {out:List (List T)} {vs:List T}:s.goals=[]->out.length≠most->ValsI s.st vars (some vs)->BackI p s.chs s.st.length s.nodes none->RunI p vars most n s out (out++[vs],0)
 | next {n:Nat} {s s':SI} {out:List (List T)} {vs:List T} {r:List (List T) × Int}:s.goals=[]->out.length≠most->ValsI s.st vars (some vs)->BackI p s.chs s.st.length s.nodes (some s')->RunI p vars most n s' (out++[vs]) r->RunI p vars most n s out r
structure ie (cl:C):Prop where
 head:(okU 26 cl.head/\wT cl.head<=1048576)/\okM cl.head
 body:∀ t∈cl.body,(okU 26 t/\wT t<=1048576)/\okM t
def okGI (N:Nat) (g:GI):Prop:=((okU N g.t/\wT g.t<=1048576)/\okM g.t)/\0<=g.cut
def cutsG (gs:List GI):Prop:=gs.Pairwise fun a b=>b.cut<=a.cut
structure okCI (m:Nat) (k:Nat) (c:CI):Prop where
 good:Good c.binds.length c.binds
 tab:tabM c.binds
 goal:(okU c.binds.length c.goal/\wT c.goal<=1048576)/\okM c.goal
 rest:∀ g∈c.rest,okGI c.binds.length g/\g.cut<=k
 cuts:cutsG c.rest
 left:∀ i∈c.left,0<=i/\i<m
 node:0<=c.node/\c.node<c.taken
structure okCs (m n k:Nat) (cs:List CI):Prop where
 at_:∀ i (h:i<cs.length),okCI m i cs[i]/\cs[i].binds.length<=n/\cs[i].taken<=k
 srt:cs.Pairwise fun a b=>a.taken<=b.taken
structure uB (m:Nat) (s:SI):Prop where
 good:Good s.st.length s.st
 tab:tabM s.st
 goals:∀ g∈s.goals,okGI s.st.length g/\g.cut<=s.chs.length
 cuts:cutsG s.goals
 chs:okCs m s.st.length s.nodes.length s.chs
def io:List CI->Nat
 | []=>0
 | c::cs=>c.left.length+io cs
theorem uz:∀ a b:List CI,io (a++b)=io a+io b
 | [],b=>by simp [io]
 | x::a,b=>by rw [dS,io,io,uz a b,J0]
theorem JL:∀ (a:List CI) (k:Nat),io (a.take k)<=io a
 | [],k=>by simp [io]
 | x::a,0=>by simp [io]
 | x::a,k+1=>by
  have:=JL a k;rw [tT,io,io];omega
theorem okCs.nil (m n k:Nat):okCs m n k []:=⟨fun i h=>by simp at h,List.Pairwise.nil⟩
theorem okCs.snoc {m n k:Nat} {cs:List CI} {c:CI} (h:okCs m n k cs) (hc:okCI m cs.length c/\c.binds.length<=n/\c.taken=k):okCs m n k (cs++[c]):=by
 refine ⟨fun i g=>?_,?_⟩
 ·rw [bA,bq,bW] at g;by_cases f:i<cs.length
  ·rw [fA f]; exact h.at_ i f
  ·obtain rfl:i=cs.length:=by omega
   rw [eZ (aS _)];simp only [ey,lc];exact ⟨hc.1,hc.2.1,LT hc.2.2⟩
 ·rw [PZ];refine ⟨h.srt,List.pairwise_singleton _ _,fun a o b l=>?_⟩;simp only [bK] at l;subst l;obtain ⟨i,g,rfl⟩:=B0 o;rw [hc.2.2];exact (h.at_ i g).2.2
theorem okCs.last {m n k:Nat} {cs:List CI} {c:CI} (h:okCs m n k (cs++[c])):okCs m n c.taken cs/\okCI m cs.length c/\c.binds.length<=n/\c.taken<=k:=by
 have a:=h.srt;rw [PZ] at a;refine ⟨⟨fun i f=>?_,a.1⟩,?_⟩
 ·have:=h.at_ i (by rw [bA]; omega);rw [fA f] at this;exact ⟨this.1,this.2.1,a.2.2 _ (bG f) c (by simp)⟩
 ·have:=h.at_ cs.length (by rw [bA]; simp);rw [eZ (aS _)] at this;simpa using this
theorem okCs.mono {m n k n' k':Nat} {cs:List CI} (h:okCs m n k cs) (hn:n<=n') (hk:k<=k'):okCs m n' k' cs:=⟨fun i a=>⟨(h.at_ i a).1,gz (h.at_ i a).2.1 hn,gz (h.at_ i a).2.2 hk⟩,h.srt⟩
theorem okCs.take {m n k:Nat} {cs:List CI} (h:okCs m n k cs) (j:Nat):okCs m n k (cs.take j):=⟨fun i a=>by
 rw [cM] at a;rw [C3];exact h.at_ i (by omega),h.srt.sublist (List.take_sublist _ _)⟩
theorem Good.g26 {st:aj} (h:Good st.length st):Good (st.length+26) (g26 st):=h.grow 26
theorem tabM.g26 {st:aj} (h:tabM st):tabM (g26 st):=h.grow 26
theorem Good.to {st:aj} (h:Good st.length st) {n:Nat} (hn:st.length<=n):Good n (bI st n):=by
 have:=h.grow (n - st.length)
 rwa [show st.length+(n - st.length)=n by omega] at this
theorem tabM.to {st:aj} (h:tabM st) (n:Nat):tabM (bI st n):=h.grow _
theorem Nh {st:aj} {g:T} {cl:C} (f:okU st.length g/\wT g<=1048576) (a:ie cl):okJ (st.length+26) (.one g (bp st.length cl.head)):=by
 refine ⟨⟨gN (sK ..) _ f.1,f.2⟩,?_,?_⟩
 ·have:=mh st.length cl.head a.head.1.1
  rwa [sG] at this
 ·rw [pO]; exact a.head.1.2
theorem TryI.ex {p:List C} (m:∀ cl∈p,ie cl) {g:T}:∀ (l:List Int) (st:aj),Good st.length st->(okU st.length g/\wT g<=1048576)->(∀ i∈l,0<=i/\i<p.length)->∃ o n,TryI p g l st o n
 | [],st,_,_,_=>⟨none,_,.nil⟩
 | i::l,st,hg,ho,hl=>by
  obtain ⟨J,M⟩:=hl i (aM ..);obtain ⟨j,rfl⟩:∃ j:Nat,i=j:=⟨i.toNat,by omega⟩
  have t:j<p.length:=by omega
  have f:p[j]?=some p[j]:=ew t;have h:=m _ (bG t);obtain ⟨r,D,q⟩:=FI _ _ hg.g26 (aS _) _ (Nh ho h);cases r with
  | true=>exact ⟨_,_,.hit f q⟩
  | false=>
   have a:=kD st;obtain ⟨o,n,G⟩:=TryI.ex m l (g26 st) (by rw [a]; exact hg.g26) (by rw [a]; exact ⟨gN (sK ..) _ ho.1,ho.2⟩) fun i B=>hl i (aR _ B);exact ⟨o,n,.miss f q G⟩
theorem TryI.ok {p:List C} (V:∀ cl∈p,ie cl) {g:T} {l:List Int} {st:aj} {o:Option HI} {n:Nat} (h:TryI p g l st o n):Good st.length st->tabM st->((okU st.length g/\wT g<=1048576)/\okM g)->
  st.length<=n/\(o=none->n=st.length+26 * l.length)/\∀ r,o=some r->r.cl∈p/\p[r.i]?=some r.cl/\st.length<=r.by_/\r.st.length=r.by_+26/\n=r.by_+26/\Good n r.st/\tabM r.st/\n+26 * r.l.length<=st.length+26 * l.length/\(∀ i∈r.l,i∈l):=by
 induction h with
 | nil=>intro _ _ _; exact ⟨aS _,fun _=>by simp,fun r q=>by cases q⟩
 | @hit i l cl st M f N=>
  intro D G m;have B:=V _ (cz f);obtain ⟨t,_⟩:=N.good D.g26 (Nh m.1 B);have J:=N.okM G.g26 ⟨m.2,pr _ _ B.head.2⟩;refine ⟨by omega,(fun h=>by cases h),fun r q=>?_⟩;simp only [aY] at q;subst q;refine ⟨cz f,f,aS _,t.len,rfl,t,J,?_,fun i f=>aR _ f⟩;simp only [bq];omega
 | @miss i l cl st M o n f N _ ih=>
  intro D G m;have a:=kD st;obtain ⟨Y,O,U⟩:=ih (by rw [a]; exact D.g26) G.g26 ⟨by rw [a]; exact ⟨gN (sK ..) _ m.1.1,m.1.2⟩,m.2⟩;rw [a] at Y O U;refine ⟨by omega,fun h=>by rw [O h,bq]; omega,fun r q=>?_⟩;obtain ⟨Z,a2,a3,a4,a5,a6,a7,a8,a9⟩:=U r q;exact ⟨Z,a2,by omega,a4,a5,a6,a7,by rw [bq]; omega,fun i f=>aR _ (a9 i f)⟩
end
end Go.Proofs.YtgllldjiaglkcaaGreatDoor
