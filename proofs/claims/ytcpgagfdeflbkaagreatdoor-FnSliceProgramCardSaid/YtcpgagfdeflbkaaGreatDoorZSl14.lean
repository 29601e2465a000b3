/- the search keeps its steps in preorder. -/
import Derived.Test.YtcpgagfdeflbkaaGreatDoorZSl13
import Derived.Test.YtcpgagfdeflbkaaGreatDoorZSl2
import Derived.Test.YtcpgagfdeflbkaaGreatDoorZSl1
import Derived.Test.YtcpgagfdeflbkaaGreatDoorZSl10
import Derived.Test.YtcpgagfdeflbkaaGreatDoorZSl4
namespace Go.Proofs.YtcpgagfdeflbkaaGreatDoor
section
open Go Go.RowKit
def okB (cs:List Ch) (ss:List (List Sp)):Prop:=∀ i (h:i<cs.length) (h':i<ss.length),(cs[i].rest.length:Int)+1=oZ ss[i]/\openP ss[i]
theorem okB.last {cs:List Ch} {ss:List (List Sp)} {c:Ch} {t:List Sp} (h:okB (cs++[c]) (ss++[t])) (hl:cs.length=ss.length):okB cs ss/\(c.rest.length:Int)+1=oZ t/\openP t:=by
 constructor
 ·intro i h1 h2
  have:=h i (by simp; omega) (by simp; omega)
  rw [ft h1,ft h2] at this
  exact this
 ·have:=h cs.length (by simp) (by simp [hl])
  rw [eT (aM _),eT (by omega)] at this
  simp only [hl,dY,kQ] at this
  exact this
theorem BackR.okP {p:List C} {cs:List Ch} {ss:List (List Sp)} {o:Option Se} (h:BackR p cs ss o):cs.length=ss.length->okB cs ss->∀ s,o=some s->okP s:=by
 induction h with
 | nil=>intro _ _ s h; cases h
 | hit ht=>
  intro hl hb s h
  simp only [bh,oz,sS] at hl
  obtain ⟨h1,h2,h3⟩:=hb.last hl
  rw [aT] at h
  subst h
  exact ht.okP hl.symm h2 h3 h1
 | miss _ _ ih=>
  intro hl hb
  simp only [bh,oz,sS] at hl
  exact ih hl (hb.last hl).1
theorem OneR.okP {p:List C} {s s':Se} {k:Int} (h:OneR p s s' k) (hn:s.saved.length=s.st.chs.length) (ho:okP s):okP s':=by
 have hgl:=ho.goals
 cases h with
 | big=>exact ho
 | stuck=>exact ho
 | fail=>exact ho
 | err=>exact ho
 | took hg _ _ _ _ ht=>
  rw [hg] at hgl
  refine ht.okP hn ?_ ho.openP ho.saved
  simp only [bk] at hgl ⊢
  omega
 | solved hg _ _ _ _ _=>
  rw [hg] at hgl
  simp only [bk] at hgl
  refine ⟨?_,ho.openP.snoc (by omega) _,ho.saved⟩
  simp only [Es]
  omega
theorem OneR.ok {p:List C} (hp:∀ cl∈p,tC cl) {s s':Se} {k:Int} (h:OneR p s s' k) (hs:xp p.length s):xp p.length s':=by
 have hgo:=hs.st.goals
 cases h with
 | big=>exact hs
 | stuck=>exact hs
 | fail=>exact hs
 | err=>exact hs
 | took hg hu hsm _ _ ht=>
  rw [hg] at hgo
  have hou:=lg hs.st.good hu (hgo _ (bq ..)).1
  have hw:=gY hsm hou
  exact ht.ok hp hs.st.chs hs.left hs.len ⟨hs.st.good,⟨hou,by simp only; omega⟩,fun x hx=>hgo x (bv _ hx)⟩ (nY p _) _ rfl
 | solved hg hu hsm _ hb hB=>
  rw [hg] at hgo
  have hou:=lg hs.st.good hu (hgo _ (bq ..)).1
  have hw:=gY hsm hou
  have hgd:=hB.good hs.st.good hb ⟨hou,by omega⟩
  have hl:=hgd.len
  exact ⟨⟨by simp only [hl]; exact hgd,fun x hx=>by simp only [hl]; exact hgo x (bv _ hx),hs.st.chs⟩,hs.left,hs.len⟩
theorem BackR.ok {p:List C} (hp:∀ cl∈p,tC cl) {cs:List Ch} {ss:List (List Sp)} {o:Option Se} (h:BackR p cs ss o):cs.length=ss.length->(∀ c∈cs,pe c)->(∀ c∈cs,∀ i∈c.left,0<=i/\i<p.length)->∀ s,o=some s->xp p.length s:=by
 induction h with
 | nil=>intro _ _ _ s h; cases h
 | hit ht=>
  intro hl hh hf s h
  simp only [bh,oz,sS] at hl
  exact ht.ok hp (fun d hd=>hh d (eM _ hd)) (fun d hd=>hf d (eM _ hd)) hl.symm (hh _ (by simp)) (hf _ (by simp)) s h
 | miss _ _ ih=>
  intro hl hh hf
  simp only [bh,oz,sS] at hl
  exact ih hl (fun d hd=>hh d (eM _ hd)) (fun d hd=>hf d (eM _ hd))
theorem Srch.ok {p:List C} (hp:∀ cl∈p,tC cl) {n:Nat} {s:Se} {o:Option Se} (h:Srch p n s o):xp p.length s->okP s->∀ t,o=some t->xp p.length t/\okP t/\t.st.goals=[]:=by
 induction h with
 | done hg=>intro h1 h2 t h; rw [aT] at h; subst h; exact ⟨h1,h2,hg⟩
 | out=>intro _ _ t h; cases h
 | halt=>intro _ _ t h; cases h
 | stop=>intro _ _ t h; cases h
 | step hg h1 _ ih=>exact fun hs ho=>ih (h1.ok hp hs) (h1.okP hs.len ho)
 | back hg h1 h2 _ ih=>
  intro hs ho
  have hs':=h1.ok hp hs
  have ho':=h1.okP hs.len ho
  exact ih (h2.ok hp hs'.len.symm hs'.st.chs hs'.left _ rfl) (h2.okP hs'.len.symm ho'.saved _ rfl)
end
section
open Go Go.ChangeShapes Go.WideShapes Go.ChangeAt Go.RowKit

inductive PF where
 | mk (goal:T) (clause:Int) (kids:List PF)
def PF.goal:PF->T
 | .mk g _ _=>g
def PF.clause:PF->Int
 | .mk _ c _=>c
def PF.kids:PF->List PF
 | .mk _ _ ks=>ks
theorem PF.ind {p:PF->Prop} (h:∀ g c ks,(∀ t∈ks,p t)->p (.mk g c ks)) (t:PF):p t:=
 PF.rec (motive_1:=p) (motive_2:=fun l=>∀ t∈l,p t) (fun g c ks ih=>h g c ks ih) (by simp) (fun a l h1 h2 t ht=>by
  rcases cQ.1 ht with rfl|ht
  ·exact h1
  ·exact h2 t ht) t
inductive RdF (S:ad):List Value->PF->Prop
 | nil {a0 a1 a2 a3:Value} {g:T} {c:Int} {a:Option Addr} {cap:Nat} (hg:RdT S [a0,a1,a2,a3] g) (hn:inI c) (hc:cap<=maxLen) :
   RdF S [a0,a1,a2,a3,.int .i64 c,.slice a 0 cap] (.mk g c [])
 | cons {a0 a1 a2 a3:Value} {g:T} {n:Int} {kids:List PF} {b o cap:Nat} {c:Array Value} {E:TypeId} {fz:Nat × Nat} (hg:RdT S [a0,a1,a2,a3] g) (hn:inI n) (hl:kids.length<=cap) (hc:cap<=maxLen)
   (hS:S b=some (.cells c E fz)) (h:∀ i (h:i<kids.length),RdF S (ba c (o+i * 6) 6) kids[i]) :
   RdF S [a0,a1,a2,a3,.int .i64 n,.slice (some ⟨b,o,none⟩) kids.length cap] (.mk g n kids)
theorem RdF.iff {S:ad} {cs:List Value} {x:PF}:RdF S cs x ↔
  ∃ kv ks,cs=[.int .i64 x.goal.kind,.int .i64 x.goal.n,.string x.goal.name,kv,.int .i64 x.clause,ks]/\RdT S [.int .i64 x.goal.kind,.int .i64 x.goal.n,.string x.goal.name,kv] x.goal/\inI x.clause/\RdSl S 6 (RdF S) ks x.kids:=by
 constructor
 ·intro h
  cases h with
  | nil hg hn hc=>
   obtain ⟨kv,e,_⟩:=RdT.iff.1 hg
   simp only [jl,jP] at e
   obtain ⟨rfl,rfl,rfl,rfl⟩:=e
   exact ⟨_,_,rfl,hg,hn,_,_,rfl,aR _,hc,.inl rfl⟩
  | cons hg hn hl hc hS h=>
   obtain ⟨kv,e,_⟩:=RdT.iff.1 hg
   simp only [jl,jP] at e
   obtain ⟨rfl,rfl,rfl,rfl⟩:=e
   exact ⟨_,_,rfl,hg,hn,_,_,rfl,hl,hc,.inr ⟨_,_,_,_,_,rfl,hS,h⟩⟩
 ·obtain ⟨g,n,kids⟩:=x
  rintro ⟨kv,ks,rfl,hg,hn,a,cap,rfl,hl,hc,h⟩
  rcases h with h|⟨b,o,c,E,fz,rfl,hS,h⟩
  ·simp only [PF.kids] at h
   subst h
   exact RdF.nil hg hn hc
  ·exact RdF.cons hg hn hl hc hS h
theorem RdF.length {S:ad} {cs:List Value} {x:PF} (h:RdF S cs x):cs.length=6:=by
 obtain ⟨_,_,rfl,_⟩:=RdF.iff.1 h; rfl
theorem RdF.one {S:ad} {cs:List Value} {x:PF} (h:RdF S cs x):∀ u∈cs,u.oneCell'=true:=by
 obtain ⟨kv,ks,rfl,hg,_,a,cap,rfl,_⟩:=RdF.iff.1 h
 have:=hg.one kv (by simp)
 intro u hu
 simp at hu
 rcases hu with rfl|rfl|rfl|rfl|rfl|rfl <;> first|rfl|exact this
theorem RdF.mono {S S':ad} (hs:Sle S S') {cs:List Value} {x:PF} (h:RdF S cs x):RdF S' cs x:=by
 induction h with
 | nil hg hn hc=>exact RdF.nil (hg.mono hs) hn hc
 | cons hg hn hl hc hS _ ih=>exact RdF.cons (hg.mono hs) hn hl hc (hs _ _ hS) ih
inductive TrF:aU->List Value->PF->Prop
 | nil {L:aU} {a0 a1 a2 a3:Value} {g:T} {n:Int} {a:Option Addr} {cap:Nat} (hg:TrT L [a0,a1,a2,a3] g) (hn:inI n) (hc:cap<=maxLen) :
   TrF L [a0,a1,a2,a3,.int .i64 n,.slice a 0 cap] (.mk g n [])
 | cons {L:aU} {a0 a1 a2 a3:Value} {g:T} {n:Int} {kids:List PF} {b cap:Nat} {c:Array Value} {E:TypeId} {Ls:List aU} (hg:TrT L [a0,a1,a2,a3] g) (hn:inI n) (hl:kids.length<=cap) (hc:cap<=maxLen)
   (hLs:Ls.length=kids.length) (hsz:cap * 6<=c.size) (h:∀ i (h:i<kids.length) (h':i<Ls.length),TrF Ls[i] (ba c (i * 6) 6) kids[i]) :
   TrF (L++(b,.cells c E)::Ls.flatten) [a0,a1,a2,a3,.int .i64 n,.slice (some ⟨b,0,none⟩) kids.length cap] (.mk g n kids)
theorem TrF.iff {L:aU} {cs:List Value} {x:PF}:TrF L cs x ↔
  ∃ L1 L2 kv ks,L=L1++L2/\cs=[.int .i64 x.goal.kind,.int .i64 x.goal.n,.string x.goal.name,kv,.int .i64 x.clause,ks]/\TrT L1 [.int .i64 x.goal.kind,.int .i64 x.goal.n,.string x.goal.name,kv] x.goal/\inI x.clause/\TrSl 6 TrF L2 ks x.kids:=by
 constructor
 ·intro h
  cases h with
  | nil hg hn hc=>
   obtain ⟨kv,e,_⟩:=TrT.iff.1 hg
   simp only [jl,jP] at e
   obtain ⟨rfl,rfl,rfl,rfl⟩:=e
   exact ⟨_,[],_,_,(cX _).symm,rfl,hg,hn,_,_,rfl,aR _,hc,.inl ⟨rfl,rfl⟩⟩
  | cons hg hn hl hc hLs hsz h=>
   obtain ⟨kv,e,_⟩:=TrT.iff.1 hg
   simp only [jl,jP] at e
   obtain ⟨rfl,rfl,rfl,rfl⟩:=e
   exact ⟨_,_,_,_,rfl,rfl,hg,hn,_,_,rfl,hl,hc,.inr ⟨_,_,_,_,rfl,rfl,hLs,hsz,h⟩⟩
 ·obtain ⟨g,n,kids⟩:=x
  rintro ⟨L1,L2,kv,ks,rfl,rfl,hg,hn,a,cap,rfl,hl,hc,h⟩
  rcases h with ⟨h,rfl⟩|⟨b,c,E,Ls,rfl,rfl,hLs,hsz,h⟩
  ·simp only [PF.kids] at h
   subst h
   rw [cX]
   exact TrF.nil hg hn hc
  ·exact TrF.cons hg hn hl hc hLs hsz h
theorem TrF.length {L:aU} {cs:List Value} {x:PF} (h:TrF L cs x):cs.length=6:=by
 obtain ⟨_,_,_,_,_,rfl,_⟩:=TrF.iff.1 h; rfl
theorem TrF.one {L:aU} {cs:List Value} {x:PF} (h:TrF L cs x):∀ u∈cs,u.oneCell'=true:=by
 obtain ⟨_,_,kv,ks,_,rfl,hg,_,a,cap,rfl,_⟩:=TrF.iff.1 h
 have:=hg.one kv (by simp)
 intro u hu
 simp at hu
 rcases hu with rfl|rfl|rfl|rfl|rfl|rfl <;> first|rfl|exact this
theorem TrF.rd {S:ad} {L:aU} {cs:List Value} {x:PF} (h:TrF L cs x) (hi:Ins S L):RdF S cs x:=by
 induction h with
 | nil hg hn hc=>exact RdF.nil (hg.rd hi) hn hc
 | cons hg hn hl hc hLs hsz h ih=>
  refine RdF.cons (hg.rd hi.left) hn hl hc (hi.right _ (bq ..)) (o:=0) fun i h1=>?_
  rw [cZ]
  exact ih i h1 (by omega) (zU (fun p hp=>hi.right p (bv _ hp)) (by omega))
section
attribute [local irreducible] Run CondV aq aK
end
section
variable {H:Type} {enc:TypeId × Value->H} {W:World} {sp:Nat->Bool} {held:Bool}
end
end
section
open Go Go.RowKit
section
attribute [local irreducible] Run CondV aq aK
end
section
attribute [local irreducible] Run CondV aq aK
end
end
section
open Go Go.RowKit
section
variable {S:ad} {ys:List Nat} {v:Value}
attribute [local irreducible] Run CondV aq aK
end
end
section
open Go Go.RowKit

section
attribute [local irreducible] Run CondV aq aK
end
end
section
open Go Go.RowKit
def Agk (σ:Int->T) (st:aj):Prop:=∀ (i:Nat) (t:T),st[i]?=some (some t)->σ i=t
def Gek (st st':aj):Prop:=st'.length=st.length/\∀ (i:Nat) (t:T),st[i]?=some (some t)->st'[i]?=some (some t)
theorem Gek.refl (st:aj):Gek st st:=⟨rfl,fun _ _ h=>h⟩
theorem Gek.trans {a b c:aj} (h:Gek a b) (h':Gek b c):Gek a c:=⟨h'.1.trans h.1,fun i t hi=>h'.2 i t (h.2 i t hi)⟩
theorem Agk.less {σ:Int->T} {a b:aj} (h:Agk σ b) (hg:Gek a b):Agk σ a:=fun i t hi=>h i t (hg.2 i t hi)
end
section
open Go Go.RowKit
section
variable {S:ad} {ys zs:List Nat} {v u:Value}
attribute [local irreducible] Run CondV aq aK
theorem RdC.cells {S:ad} {cs:List Value} {c:C} (h:RdC S cs c):∃ kv kb,cs=[.int .i64 c.head.kind,.int .i64 c.head.n,.string c.head.name,kv,kb]/\RdT S [.int .i64 c.head.kind,.int .i64 c.head.n,.string c.head.name,kv] c.head/\RdSl S 4 (RdT S) kb c.body:=by
 obtain ⟨hd,kb,rfl,h1,h2⟩:=h
 have h1':=h1
 obtain ⟨kv,rfl,_⟩:=RdT.iff.1 h1
 exact ⟨kv,kb,rfl,h1',h2⟩
end
end
section
open Go Go.RowKit
theorem qY {t:T} (h:dJ t=true):wT t<=840:=by
 have ho:=jE h
 have h1:=KJ t ho
 rw [dJ,bN] at h
 have h2:dZ t<=120:=by simpa using h.2
 omega
theorem lb {g:T} (h:eF g=true):dJ g=true:=by
 rw [eF,bN] at h; exact h.1
theorem NG {g:T} (h:eF g=true):decide (g.kind=3)=true:=by
 rw [eF,bN,iS,iS] at h
 rcases h.2 with h|h|h
 ·rw [fp,bN] at h; exact h.1
 ·rw [dg,bN] at h; exact h.1
 ·rw [cr,bN] at h; exact h.1
def bltF (g:T) (f:Bool):Prop:=(cr g=false/\f=false) ∨ (cr g=true/\∃ code st',Blt Uw g code st'/\f=TI code st')
theorem bltF.ex {g:T} (h:dJ g=true):∃ f,bltF g f:=by
 cases hb:cr g with
 | false=>exact ⟨false,.inl ⟨hb,rfl⟩⟩
 | true=>
  have:=qY h
  obtain ⟨c,st',hB⟩:=Blt.ex (DS 26) hb ⟨jE h,by omega⟩
  exact ⟨_,.inr ⟨hb,c,st',hB,rfl⟩⟩
open Classical in
noncomputable def bltV (g:T):Bool:=if h:∃ f,bltF g f then h.choose else false
def Rl:List T->List PF->aj->Bool
 | g::gs,x::xs,st=>!fp g && ((nJ g x.goal st).1 && Rl gs xs (nJ g x.goal st).2)
 | _,_,_=>true
noncomputable def nodeC (p:List C) (g:T) (c:Int) (ks:List PF):Bool:=if c<0 then decide (ks.length=0) && bltV g else match p[c.toNat]? with
 | none=>false
 | some q=>decide (ks.length=q.body.length) && ((nJ q.head g st0).1 && Rl q.body ks (nJ q.head g st0).2)
mutual
noncomputable def chkF (p:List C):PF->Bool
 | .mk g c ks=>nodeC p g c ks && chkFL p ks
noncomputable def chkFL (p:List C):List PF->Bool
 | []=>true
 | x::xs=>chkF p x && chkFL p xs
end
noncomputable def interL (p:List C):List T->List PF->aj->Bool
 | g::gs,x::xs,st=>!fp g && ((nJ g x.goal st).1 && (chkF p x && interL p gs xs (nJ g x.goal st).2))
 | _,_,_=>true
section
attribute [local irreducible] Run CondV aq aK
end
end
section
open Go Go.RowKit
mutual
def okM:T->Prop
 | .mk k n s ks=>(k=2->-999<=n/\n<=999)/\(k≠3->s=emptyB)/\mI ks
def mI:List T->Prop
 | []=>True
 | t::ts=>okM t/\mI ts
end
theorem qx:∀ {ts:List T},mI ts->∀ t∈ts,okM t
 | t::ts,h,x,hx=>by
  rw [mI] at h
  rcases cQ.1 hx with rfl|hx
  ·exact h.1
  ·exact qx h.2 x hx
theorem LV:∀ {ts:List T},(∀ t∈ts,okM t)->mI ts
 | [],_=>by rw [mI]; trivial
 | t::ts,h=>by rw [mI]; exact ⟨h t (bq ..),LV fun u hu=>h u (bv _ hu)⟩
theorem okM.kids {t:T} (h:okM t):mI t.kids:=by cases t; rw [okM] at h; exact h.2.2
mutual
theorem okM.okN:∀ {t:T},okM t->okN t
 | .mk k n s ks,h=>by
  rw [okM] at h
  rw [Go.Proofs.YtcpgagfdeflbkaaGreatDoor.okN]
  exact ⟨h.1,Ic h.2.2⟩
theorem Ic:∀ {ts:List T},mI ts->FE ts
 | [],_=>by rw [FE]; trivial
 | t::ts,h=>by
  rw [mI] at h
  rw [FE]
  exact ⟨okM.okN h.1,Ic h.2⟩
end
mutual
theorem EU:∀ (t:T) (d:Int),gf t d=true->okM t
 | .mk k n s ks,d,h=>by
  rw [gf] at h
  split at h
  ·cases h
  rw [bN] at h
  obtain ⟨ho,hk⟩:=h
  rw [okM]
  have h2:k=2->(-999<=n/\n<=999)/\s=emptyB:=by
   intro e
   subst e
   have ho2:eN (.mk 2 n s ks)=(decide (-999<=n) && (decide (n<=999) && (decide (s=emptyB) && decide (ks.length=0)))):=by
    rw [eN]; exact (af (show ¬ (2:Int)=1 by decide)).trans (ai rfl)
   rw [ho2,bN,bN,bN] at ho
   exact ⟨⟨of_decide_eq_true ho.1,of_decide_eq_true ho.2.1⟩,of_decide_eq_true ho.2.2.1⟩
  refine ⟨fun e=>(h2 e).1,fun e=>?_,Aw ks _ hk⟩
  by_cases e2:k=2
  ·exact (h2 e2).2
  ·have ho:(if k=1 then decide (0<=n) && (decide (n<=25) && (decide (s=emptyB) && decide (ks.length=0))) else if k=2 then decide (-999<=n) && (decide (n<=999) && (decide (s=emptyB) && decide (ks.length=0))) else if k=3 then decide (n=0) && (k0 s && decide (ks.length<=4)) else false)=true:=ho
   rw [af e2,af e] at ho
   split at ho
   ·simp only [bN,bC] at ho
    exact ho.2.2.1
   ·cases ho
theorem Aw:∀ (ts:List T) (d:Int),gh ts d=true->mI ts
 | [],_,_=>by rw [mI]; trivial
 | t::ts,d,h=>by
  rw [gh,bN] at h
  rw [mI]
  exact ⟨EU t d h.1,Aw ts d h.2⟩
end
theorem xC {t:T} (h:dJ t=true):okM t:=EU t 30 (yD h)
mutual
theorem mf (m:Int):∀ t:T,okM t->okM (dl m t)
 | .mk k n s ks,h=>by
  rw [okM] at h
  rw [dl,okM]
  refine ⟨fun e=>?_,h.2.1,Be m ks h.2.2⟩
  rw [af (by omega)]
  exact h.1 e
theorem Be (m:Int):∀ ts:List T,mI ts->mI (fH m ts)
 | [],_=>by rw [fH,mI]; trivial
 | t::ts,h=>by
  rw [mI] at h
  rw [fH,mI]
  exact ⟨mf m t h.1,Be m ts h.2⟩
end
def tabM (st:aj):Prop:=∀ t,some t∈st->okM t
theorem tabM.set {st:aj} (h:tabM st) {n:Nat} {t:T} (ht:okM t):tabM (st.set n (some t)):=by
 intro u hu
 rcases Jc hu with hu|hu
 ·exact h u hu
 ·rw [aT] at hu
  subst hu
  exact ht
theorem tabM.look {st:aj} (h:tabM st) {t u:T} (hl:look st t=some u):okM u:=h u (du (dc.1 hl).2)
theorem tabM.walk {st:aj} (h:tabM st) {t v:T} (hw:dw st t v) (ht:okM t):okM v:=by
 induction hw with
 | stop=>exact ht
 | step hl _ ih=>exact ih (h.look hl)
theorem tabM.grow {st:aj} (h:tabM st) (k:Nat):tabM (st++List.replicate k none):=by
 intro t ht
 rcases cd.1 ht with ht|ht
 ·exact h t ht
 ·have:=Ma ht
  cases this
theorem tabM.none (k:Nat):tabM (List.replicate k none):=by
 intro t ht
 have:=Ma ht
 cases this
def R0:Job->Prop
 | .one a b=>okM a/\okM b
 | .list xs ys=>(∀ a∈xs,okM a)/\∀ b∈ys,okM b
theorem Uni.okM {st st':aj} {j:Job} {r:Bool} (hu:Uni st j r st'):tabM st->R0 j->tabM st':=by
 induction hu with
 | same=>exact fun h _=>h
 | occA=>exact fun h _=>h
 | occB=>exact fun h _=>h
 | clash=>exact fun h _=>h
 | nil=>exact fun h _=>h
 | bindA ha hb _ _ _=>exact fun h hj=>h.set (h.walk hb hj.2)
 | bindB ha hb _ _ _=>exact fun h hj=>h.set (h.walk ha hj.1)
 | kids ha hb _ _ _ _ ih=>exact fun h hj=>ih h ⟨qx (h.walk ha hj.1).kids,qx (h.walk hb hj.2).kids⟩
 | stop _ ih=>exact fun h hj=>ih h ⟨hj.1 _ (bq ..),hj.2 _ (bq ..)⟩
 | go _ _ ih1 ih2=>
  exact fun h hj=>ih2 (ih1 h ⟨hj.1 _ (bq ..),hj.2 _ (bq ..)⟩) ⟨fun a ha=>hj.1 a (bv _ ha),fun b hb=>hj.2 b (bv _ hb)⟩
theorem Res.okM {st:aj} (hs:tabM st) {j:PX} (h:Res st j):match j with
  | .one t u=>okM t->okM u
  | .list ts us=>(∀ t∈ts,okM t)->∀ u∈us,okM u:=by
 induction h with
 | @one t v us hw _ ih=>
  intro ht
  have hv:=hs.walk hw ht
  have hk:=ih (qx hv.kids)
  cases v
  rw [Go.Proofs.YtcpgagfdeflbkaaGreatDoor.okM] at hv ⊢
  exact ⟨hv.1,hv.2.1,LV hk⟩
 | nil=>intro _ u hu; cases hu
 | cons _ _ ih1 ih2=>
  intro ht u hu
  rcases cQ.1 hu with rfl|hu
  ·exact ih1 (ht _ (bq ..))
  ·exact ih2 (fun t h=>ht t (bv _ h)) u hu
theorem okM.kd {g:T} (h:okM g) (i:Nat):okM (kd g i):=by
 rw [Go.Proofs.YtcpgagfdeflbkaaGreatDoor.kd,MP]
 cases e:g.kids[i]? with
 | none=>
  simp only [Option.getD_none]
  rw [zT,Go.Proofs.YtcpgagfdeflbkaaGreatDoor.okM,mI]
  exact ⟨fun e=>(by cases e),fun _=>rfl,trivial⟩
 | some u=>exact qx h.kids u (du e)
theorem QB {n:Int} (h:Sm n):okM (HT n):=by
 rw [HT,okM,mI]
 exact ⟨fun _=>h,fun _=>rfl,trivial⟩
def Uk:BJ->Prop
 | .done _=>True
 | .uni a b=>R0 (.one a b)
 | .not a b=>R0 (.one a b)
theorem R5 {g:T} (h:okM g):Uk (g7 g):=by
 unfold g7
 split
 ·trivial
 split
 ·trivial
 split
 ·exact ⟨h.kd _,h.kd _⟩
 split
 ·exact ⟨h.kd _,h.kd _⟩
 split
 ·trivial
 split
 ·split
  ·trivial
  ·exact ⟨h.kd _,QB (s9 _ (h.kd _).okN)⟩
 split
 ·unfold GR
  split
  ·trivial
  split
  ·trivial
  split
  ·trivial
  ·exact ⟨h.kd _,(h.kd _).kd _⟩
 split
 ·trivial
 ·trivial
theorem Blt.okM {st st':aj} {g:T} {c:Int} (hs:tabM st) (hg:okM g) (h:Blt st g c st'):tabM st':=by
 have hj:=R5 hg
 unfold Blt at h
 match hb:g7 g,h,hj with
 | .done c,h,_=>exact h.2 ▸ hs
 | .uni a b,⟨r,hu,_⟩,hj=>exact hu.okM hs hj
 | .not a b,h,_=>exact h.1 ▸ hs
end
section
open Go Go.RowKit
structure PN (cl:C):Prop where
 cf:tC cl
 hd:okM cl.head
 bd:∀ t∈cl.body,okM t
 fr:qK cl<=26
 ln:cl.body.length<=6
 w:wC cl<=1048576
 vs:∀ x∈lY (cl.head::cl.body) [],0<=x/\x<1000000
mutual
theorem O1 {M N:Nat}:∀ t:T,okU M t->(∀ m∈vT t,m<N)->okU N t
 | .mk k n s ks,h,hv=>by
  rw [okU] at h ⊢
  rw [vT] at hv
  refine ⟨h.1,fun e=>?_,?_,h.2.2.2⟩
  ·obtain ⟨q1,q2,q3⟩:=h.2.1 e
   have:=hv n.toNat (by rw [ai e]; exact bY.2 rfl)
   exact ⟨q1,by omega,q3⟩
  ·by_cases e:k=1
   ·rw [(h.2.1 e).2.2.2,cS]; trivial
   ·rw [af e] at hv
    exact wF ks h.2.2.1 hv
theorem wF {M N:Nat}:∀ ts:List T,cS M ts->(∀ m∈vTL ts,m<N)->cS N ts
 | [],_,_=>by rw [cS]; trivial
 | t::ts,h,hv=>by
  rw [cS] at h ⊢
  rw [vTL] at hv
  exact ⟨O1 t h.1 fun m hm=>hv m (eM _ hm),wF ts h.2 fun m hm=>hv m (kw _ hm)⟩
end
theorem HS {cl:C} (h:bX cl=true):PN cl:=by
 obtain ⟨h1,h2,_⟩:=gD h
 have hU:cS 26 (cl.head::cl.body):=by rw [cS]; exact ⟨h1,re h2⟩
 have hmem:=sU (cl.head::cl.body) [] hU
 have hb:=h
 rw [bX] at hb
 simp only [bN,bC,ed] at hb
 obtain ⟨hl,hgs,hvh,_⟩:=hb
 have hlt:∀ m∈vTL (cl.head::cl.body),m<26:=K9 _ hU
 have hfr:∀ m∈vTL (cl.head::cl.body),m<(qK cl).toNat:=by
  intro m hm
  have:=(DQ (lY (cl.head::cl.body) []) 0).2 m ((hmem m).2 (.inr ⟨m,hm,rfl⟩))
  rw [qK]
  omega
 have hN:=wF _ hU hfr
 rw [cS] at hN
 have hwh:=qY hvh
 have hwb:∀ t∈cl.body,wT t<=840:=fun t ht=>qY (lb (hgs t ht))
 have hvs:∀ x∈lY (cl.head::cl.body) [],0<=x/\x<26:=by
  intro x hx
  rcases (hmem x).1 hx with hx|⟨m,hm,rfl⟩
  ·cases hx
  ·have:=hlt m hm
   omega
 have hwl:∀ ts:List T,(∀ t∈ts,wT t<=840)->wL ts<=841 * ts.length:=by
  intro ts
  induction ts with
  | nil=>intro _; simp [wL]
  | cons t ts ih=>
   intro hh
   have a:=hh t (bq ..)
   have b:=ih fun u hu=>hh u (bv _ hu)
   simp only [wL,bk]
   omega
 have:=hwl _ hwb
 refine ⟨⟨⟨hN.1,by omega⟩,fun t ht=>⟨j8 hN.2 t ht,by have:=hwb t ht; omega⟩⟩,xC hvh,fun t ht=>xC (lb (hgs t ht)),?_,hl,?_,fun x hx=>⟨(hvs x hx).1,by have:=(hvs x hx).2; omega⟩⟩
 ·exact El 26 _ 0 (by omega) fun x hx=>(hvs x hx).2
 ·unfold wC; omega
structure okRk (k:Nat) (c:Ch):Prop where
 nb:c.binds.length<=26+26 * k
 nr:c.rest.length<=1+6 * k
 tab:tabM c.binds
 goal:okM c.goal
 rest:∀ g∈c.rest,okM g.1
 pos:0<c.binds.length
def okLp (N:Nat) (l:List Sp):Prop:=∀ x∈l,(okU N x.goal/\wT x.goal<=1048576)/\0<=x.body/\x.body<=6/\-1<=x.clause/\x.clause<=1000000
structure okXk (k:Nat) (s:Se):Prop where
 nb:s.st.binds.length<=26+26 * k
 ng:s.st.goals.length<=1+6 * k
 nc:s.st.chs.length<=k
 ns:s.steps.length<=k
 tab:tabM s.st.binds
 goals:∀ g∈s.st.goals,okM g.1
 chs:∀ c∈s.st.chs,okRk k c
 steps:okLp s.st.binds.length s.steps
 saved:∀ i (h:i<s.st.chs.length) (h':i<s.saved.length),okLp s.st.chs[i].binds.length s.saved[i]
 nv:∀ l∈s.saved,l.length<=k
 pos:0<s.st.binds.length
theorem okRk.up {k:Nat} {c:Ch} (h:okRk k c):okRk (k+1) c:=⟨by have:=h.nb; omega,by have:=h.nr; omega,h.tab,h.goal,h.rest,h.pos⟩
theorem okLp.mono {N M:Nat} {l:List Sp} (h:okLp N l) (hm:N<=M):okLp M l:=fun x hx=>⟨⟨gC hm _ (h x hx).1.1,(h x hx).1.2⟩,(h x hx).2⟩
theorem okXk.up {k:Nat} {s:Se} (h:okXk k s):okXk (k+1) s:=
 ⟨by have:=h.nb; omega,by have:=h.ng; omega,by have:=h.nc; omega,by have:=h.ns; omega,h.tab,h.goals,fun c hc=>(h.chs c hc).up,h.steps,h.saved,fun l hl=>by have:=h.nv l hl; omega,h.pos⟩
theorem FirstL.of {p:List C} {chs:List Ch} {c:Ch} {l:List Int} {o:Option (St6 × Int × List Int)} (h:FirstL p chs c l o):∀ s i r,o=some (s,i,r)->
  ∃ (n:Nat) (cl:C) (st:aj),i=n/\p[n]?=some cl/\s=ol chs c cl [] st/\Uni (OD c.binds cl) (.one c.goal (dl c.binds.length cl.head)) true st:=by
 induction h with
 | nil=>intro s i r h; cases h
 | miss _ _ ih=>exact ih
 | hit ht=>
  intro s i r h
  simp only [aT,cL] at h
  obtain ⟨rfl,rfl,rfl⟩:=h
  cases ht with
  | hit hi hu=>exact ⟨_,_,_,rfl,hi,rfl,hu⟩
  | miss _ _ h=>cases h
theorem TakeR.okXk {p:List C} (hp:∀ cl∈p,PN cl) (hpl:p.length<=1000000) {k:Nat} {s s':Se} {c:Ch} (h:TakeR p s c (some s')) (hc:pe c) (hr:okRk k c) (hn:s.saved.length=s.st.chs.length)
  (hcs:∀ d∈s.st.chs,okRk k d) (hcn:s.st.chs.length<=k) (hst:okLp c.binds.length s.steps) (hsn:s.steps.length<=k)
  (hsv:∀ i (h:i<s.st.chs.length) (h':i<s.saved.length),okLp s.st.chs[i].binds.length s.saved[i]) (hsvn:∀ l∈s.saved,l.length<=k):okXk (k+1) s':=by
 cases h with
 | @yes u i l hF=>
  obtain ⟨n,cl,st,rfl,hi,rfl,hu⟩:=hF.of _ _ _ rfl
  have hm:=hp cl (du hi)
  obtain ⟨hg,_⟩:=hu.good (xm hc cl) (FP hc hm.cf)
  have htab:tabM st:=hu.okM (hr.tab.grow _) ⟨hr.goal,mf _ _ hm.hd⟩
  have hlen:=hg.len
  have hfr:=hm.fr
  have hln:=hm.ln
  have hnb:=hr.nb
  have hnr:=hr.nr
  have hpos:=hr.pos
  have hrn:okRk (k+1) ⟨c.goal,c.rest,l,c.binds⟩:=okRk.up ⟨hnb,hnr,hr.tab,hr.goal,hr.rest,hpos⟩
  refine ⟨?_,?_,?_,?_,htab,?_,?_,?_,?_,?_,?_⟩
  ·simp only [kK,ol]; omega
  ·simp only [kK,ol,bh,pF]; omega
  ·simp only [kK,bh]; split <;> simp <;> omega
  ·simp only [kK,bh,oz]; omega
  ·intro g hg
   simp only [kK,ol] at hg
   rcases cd.1 hg with hg|hg
   ·obtain ⟨t,ht,rfl⟩:=iX.1 hg
    exact mf _ _ (hm.bd t ht)
   ·exact hr.rest g hg
  ·intro d hd
   simp only [kK] at hd
   rcases cd.1 hd with hd|hd
   ·exact (hcs d hd).up
   ·split at hd
    ·cases hd
    ·rw [bY] at hd
     subst hd
     exact hrn
  ·intro x hx
   simp only [kK,ol] at hx ⊢
   rcases cd.1 hx with hx|hx
   ·exact hst.mono (by omega) x hx
   ·rw [bY] at hx
    subst hx
    simp only [dF,hi,Option.elim_some]
    exact ⟨⟨gC (by omega) _ hc.goal.1,hc.goal.2⟩,by omega,by omega,by omega,by have:=(fu.1 hi).1; omega⟩
  ·intro j h1 h2
   simp only [kK] at h1 h2 ⊢
   by_cases hl:l=[]
   ·subst hl
    simp only [ai,cX] at h1 h2 ⊢
    exact hsv j h1 h2
   ·simp only [af hl,bh,oz] at h1 h2 ⊢
    by_cases hk:j<s.st.chs.length
    ·rw [ft hk,ft (by omega)]
     exact hsv j hk (by omega)
    ·have hk1:j=s.st.chs.length:=by omega
     subst hk1
     rw [eT (aM _),eT (by omega)]
     simp only [hn,dY,kQ]
     exact hst
  ·intro q hq
   simp only [kK] at hq
   rcases cd.1 hq with hq|hq
   ·have:=hsvn q hq; omega
   ·split at hq
    ·cases hq
    ·rw [bY] at hq
     subst hq
     omega
  ·simp only [kK,ol]; omega
def okBL (cs:List Ch) (ss:List (List Sp)):Prop:=∀ i (h:i<cs.length) (h':i<ss.length),okLp cs[i].binds.length ss[i]
theorem okBL.last {cs:List Ch} {ss:List (List Sp)} {c:Ch} {t:List Sp} (h:okBL (cs++[c]) (ss++[t])) (hl:cs.length=ss.length):okBL cs ss/\okLp c.binds.length t:=by
 constructor
 ·intro i h1 h2
  have:=h i (by simp; omega) (by simp; omega)
  rw [ft h1,ft h2] at this
  exact this
 ·have:=h cs.length (by simp) (by simp [hl])
  rw [eT (aM _),eT (by omega)] at this
  simp only [hl,dY,kQ] at this
  exact this
theorem BackR.okXk {p:List C} (hp:∀ cl∈p,PN cl) (hpl:p.length<=1000000) {k:Nat} {cs:List Ch} {ss:List (List Sp)} {o:Option Se} (h:BackR p cs ss o):cs.length=ss.length->(∀ c∈cs,pe c/\okRk k c)->cs.length<=k->okBL cs ss->(∀ l∈ss,l.length<=k)->∀ s,o=some s->Go.Proofs.YtcpgagfdeflbkaaGreatDoor.okXk (k+1) s:=by
 induction h with
 | nil=>intro _ _ _ _ _ s h; cases h
 | hit ht=>
  intro hl hh hk hb hv s h
  simp only [bh,oz,sS] at hl hk
  rw [aT] at h
  subst h
  obtain ⟨h1,h2⟩:=hb.last hl
  exact ht.okXk hp hpl (hh _ (by simp)).1 (hh _ (by simp)).2 hl.symm (fun d hd=>(hh d (eM _ hd)).2) (by simp only; omega) h2 (hv _ (by simp)) h1 fun l hl=>hv l (eM _ hl)
 | miss _ _ ih=>
  intro hl hh hk hb hv
  simp only [bh,oz,sS] at hl hk
  exact ih hl (fun d hd=>hh d (eM _ hd)) (by omega) (hb.last hl).1 fun l hl=>hv l (eM _ hl)
theorem OneR.okXk {p:List C} (hp:∀ cl∈p,PN cl) (hpl:p.length<=1000000) {k:Nat} {s s':Se} {e:Int} (h:OneR p s s' e) (hs:xp p.length s) (hx:okXk k s):okXk (k+1) s'/\(e=-2->s'=s):=by
 have hgo:=hs.st.goals
 have hgm:=hx.goals
 cases h with
 | big=>exact ⟨hx.up,fun _=>rfl⟩
 | stuck=>exact ⟨hx.up,fun _=>rfl⟩
 | fail=>exact ⟨hx.up,fun _=>rfl⟩
 | err=>exact ⟨hx.up,fun _=>rfl⟩
 | @took g rest u _ hg hu hsm _ _ ht=>
  rw [hg] at hgo hgm
  have hou:=lg hs.st.good hu (hgo _ (bq ..)).1
  have hw:=gY hsm hou
  have hum:okM u:=Res.okM hx.tab hu (hgm _ (bq ..))
  have hng:=hx.ng
  rw [hg,bk] at hng
  refine ⟨ht.okXk hp hpl ⟨hs.st.good,⟨hou,by simp only; omega⟩,fun x hx=>hgo x (bv _ hx)⟩ ⟨hx.nb,by simp only; omega,hx.tab,hum,fun x hx=>hgm x (bv _ hx),hx.pos⟩ hs.len hx.chs hx.nc hx.steps hx.ns hx.saved hx.nv,fun e=>(by cases e)⟩
 | @solved g rest u st hg hu hsm _ hb hB=>
  rw [hg] at hgo hgm
  have hou:=lg hs.st.good hu (hgo _ (bq ..)).1
  have hw:=gY hsm hou
  have hum:okM u:=Res.okM hx.tab hu (hgm _ (bq ..))
  have hgd:=hB.good hs.st.good hb ⟨hou,by omega⟩
  have hl:=hgd.len
  have hng:=hx.ng
  rw [hg,bk] at hng
  have hnb:=hx.nb
  have hns:=hx.ns
  have hpos:=hx.pos
  refine ⟨⟨by simp only; omega,by simp only; omega,by have:=hx.nc; simp only; omega,by simp only [bh,oz]; omega,hB.okM hx.tab hum,fun x h=>hgm x (bv _ h),fun c hc=>(hx.chs c hc).up,?_,hx.saved,fun l hl=>by have:=hx.nv l hl; omega,by simp only; omega⟩,fun e=>(by cases e)⟩
  intro x h
  simp only at h ⊢
  rw [hl]
  rcases cd.1 h with h|h
  ·exact hx.steps x h
  ·rw [bY] at h
   subst h
   exact ⟨⟨hou,by simp only; omega⟩,by simp,by simp,by simp,by simp⟩
theorem Srch.okXk {p:List C} (hp:∀ cl∈p,PN cl) (hpl:p.length<=1000000) {n:Nat} {s:Se} {o:Option Se} (h:Srch p n s o):∀ k,xp p.length s->Go.Proofs.YtcpgagfdeflbkaaGreatDoor.okXk k s->∀ t,o=some t->Go.Proofs.YtcpgagfdeflbkaaGreatDoor.okXk (k+n) t:=by
 induction h with
 | @done n s hg=>
  intro k h1 h2 t h
  rw [aT] at h
  subst h
  induction n with
  | zero=>exact h2
  | succ n ih=>exact ih.up
 | out=>intro _ _ _ t h; cases h
 | halt=>intro _ _ _ t h; cases h
 | stop=>intro _ _ _ t h; cases h
 | @step n _ _ _ hg h1 _ ih=>
  intro k hs hx t h
  have:=ih (k+1) (h1.ok (fun cl hc=>(hp cl hc).cf) hs) (h1.okXk hp hpl hs hx).1 t h
  rwa [show k+(n+1)=k+1+n by omega]
 | @back n _ s' _ _ hg h1 h2 _ ih=>
  intro k hs hx t h
  have hs':=h1.ok (fun cl hc=>(hp cl hc).cf) hs
  have e:=(h1.okXk hp hpl hs hx).2 rfl
  subst e
  have:=ih (k+1) (h2.ok (fun cl hc=>(hp cl hc).cf) hs.len.symm hs.st.chs hs.left _ rfl) (h2.okXk hp hpl hs.len.symm (fun c hc=>⟨hs.st.chs c hc,hx.chs c hc⟩) hx.nc hx.saved hx.nv _ rfl) t h
  rwa [show k+(n+1)=k+1+n by omega]
end
section
open Go Go.RowKit
structure GI where
 t:T
 cut:Int
 up:Int
structure CI where
 goal:T
 node:Int
 rest:List GI
 left:List Int
 binds:aj
 taken:Nat
structure NI where
 goal:T
 up:Int
 clause:Int
structure SI where
 st:aj
 goals:List GI
 chs:List CI
 nodes:List NI
def g26 (st:aj):aj:=st++List.replicate 26 none
def bU (st:aj) (n:Nat):aj:=st++List.replicate (n - st.length) none
theorem n6 (st:aj):(g26 st).length=st.length+26:=by simp [g26]
theorem dI {st:aj} {n:Nat} (h:st.length<=n):(bU st n).length=n:=by simp [bU]; omega
theorem BU {st:aj} {n:Nat} (h:st.length<=n):g26 (bU st n)=bU st (n+26):=by
 unfold g26 bU
 rw [eI,Oa]
 congr 2
 omega
theorem lw (st:aj):bU st st.length=st:=by simp [bU]
theorem K0 (st:aj):g26 st=bU st (st.length+26):=by
 rw [<- BU (aM _),lw]
structure HI where
 i:Nat
 cl:C
 by_:Nat
 l:List Int
 st:aj
inductive TryI (p:List C) (g:T):List Int->aj->Option HI->Nat->Prop
 | nil {st:aj}:TryI p g [] st none st.length
 | hit {i:Nat} {l:List Int} {cl:C} {st st':aj}:p[i]?=some cl->Uni (g26 st) (.one g (dl st.length cl.head)) true st'->TryI p g ((i:Int)::l) st (some ⟨i,cl,st.length,l,st'⟩) (st.length+26)
 | miss {i:Nat} {l:List Int} {cl:C} {st st':aj} {o:Option HI} {n:Nat}:p[i]?=some cl->Uni (g26 st) (.one g (dl st.length cl.head)) false st'->TryI p g l (g26 st) o n->TryI p g ((i:Int)::l) st o n
def r2 (cl:C) (by_:Nat) (cut up:Int) (rest:List GI):List GI:=cl.body.map (fun t=>⟨dl by_ t,cut,up⟩)++rest
def Fr (ns:List NI) (at_:Nat) (i:Int):List NI:=ns.modify at_ fun x=>⟨x.goal,x.up,i⟩
def jL (chs:List CI) (nodes:List NI) (g:T) (at_:Int) (rest:List GI) (b:aj) (r:HI):SI:=
 ⟨r.st,r2 r.cl r.by_ chs.length at_ rest,chs++(if r.l=[] then [] else [⟨g,at_,rest,r.l,b,nodes.length⟩]),Fr nodes at_.toNat r.i⟩
inductive BackI (p:List C):List CI->Nat->List NI->Option SI->Prop
 | nil {n:Nat} {ns:List NI}:BackI p [] n ns none
 | hit {cs:List CI} {c:CI} {n m:Nat} {ns:List NI} {r:HI}:TryI p c.goal c.left (bU c.binds n) (some r) m->BackI p (cs++[c]) n ns (some (jL cs (ns.take c.taken) c.goal c.node c.rest (bU c.binds n) r))
 | miss {cs:List CI} {c:CI} {n m:Nat} {ns:List NI} {o:Option SI}:TryI p c.goal c.left (bU c.binds n) none m->BackI p cs m (ns.take c.taken) o->BackI p (cs++[c]) n ns o
def NF (c:Int):Int:=if c=2 then 4 else if c=3 then 5 else if c=4 then 6 else 7
inductive StepI (p:List C) (nc:Bool) (s:SI):Option SI->Int->Prop
 | large {g:GI} {gs:List GI} {t:T}:s.goals=g::gs->Res s.st (.one g.t t)->bS t=false->StepI p nc s none 3
 | noCut {g:GI} {gs:List GI} {t:T}:s.goals=g::gs->Res s.st (.one g.t t)->bS t=true->fp t=true->nc=true->StepI p nc s none 0
 | cut {g:GI} {gs:List GI} {t:T}:s.goals=g::gs->Res s.st (.one g.t t)->bS t=true->fp t=true->nc=false->
   StepI p nc s (some ⟨s.st,gs,s.chs.take g.cut.toNat,s.nodes++[⟨t,g.up,-1⟩]⟩) (-1)
 | solved {g:GI} {gs:List GI} {t:T} {st:aj}:s.goals=g::gs->Res s.st (.one g.t t)->bS t=true->fp t=false->cr t=true->Blt s.st t 0 st->
   StepI p nc s (some ⟨st,gs,s.chs,s.nodes++[⟨t,g.up,-1⟩]⟩) (-1)
 | fail {g:GI} {gs:List GI} {t:T} {st:aj} {o:Option SI}:s.goals=g::gs->Res s.st (.one g.t t)->bS t=true->fp t=false->cr t=true->Blt s.st t 1 st->
   BackI p s.chs s.st.length (s.nodes++[⟨t,g.up,-1⟩]) o->StepI p nc s o (if o.isSome then -1 else 0)
 | err {g:GI} {gs:List GI} {t:T} {st:aj} {c:Int}:s.goals=g::gs->Res s.st (.one g.t t)->bS t=true->fp t=false->cr t=true->Blt s.st t c st->c≠0->c≠1->StepI p nc s none (NF c)
 | unknown {g:GI} {gs:List GI} {t:T}:s.goals=g::gs->Res s.st (.one g.t t)->bS t=true->fp t=false->cr t=false->iz p t=[]->StepI p nc s none 8
 | took {g:GI} {gs:List GI} {t:T} {r:HI} {m:Nat}:s.goals=g::gs->Res s.st (.one g.t t)->bS t=true->fp t=false->cr t=false->iz p t≠[]->
   TryI p t (iz p t) s.st (some r) m->StepI p nc s (some (jL s.chs (s.nodes++[⟨t,g.up,-1⟩]) t s.nodes.length gs s.st r)) (-1)
 | back {g:GI} {gs:List GI} {t:T} {m:Nat} {o:Option SI}:s.goals=g::gs->Res s.st (.one g.t t)->bS t=true->fp t=false->cr t=false->iz p t≠[]->
   TryI p t (iz p t) s.st none m->BackI p s.chs m (s.nodes++[⟨t,g.up,-1⟩]) o->StepI p nc s o (if o.isSome then -1 else 0)
def QH (n:Int):T:=.mk 1 n emptyB []
def ValsI (st:aj) (vars:List Int) (o:Option (List T)):Prop:=∃ us,Res st (.list (vars.map QH) us)/\
 o=if us.all bS=true/\(ef us []).length<=26 then some (iN (ef us []) us) else none
inductive RunI (p:List C) (vars:List Int) (most:Nat):Nat->SI->List (List T)->List (List T) × Int->Prop
 | fuel {s:SI} {out:List (List T)}:s.goals≠[]->RunI p vars most 0 s out (out,2)
 | stop {n:Nat} {s:SI} {out:List (List T)} {e:Int}:s.goals≠[]->StepI p false s none e->RunI p vars most (n+1) s out (out,e)
 | step {n:Nat} {s s':SI} {out:List (List T)} {e:Int} {r:List (List T) × Int}:s.goals≠[]->StepI p false s (some s') e->RunI p vars most n s' out r->RunI p vars most (n+1) s out r
 | more {n:Nat} {s:SI} {out:List (List T)}:s.goals=[]->out.length=most->RunI p vars most n s out (out,1)
 | large {n:Nat} {s:SI} {out:List (List T)}:s.goals=[]->out.length≠most->ValsI s.st vars none->RunI p vars most n s out (out,3)
 | last {n:Nat} {s:SI} {out:List (List T)} {vs:List T}:s.goals=[]->out.length≠most->ValsI s.st vars (some vs)->BackI p s.chs s.st.length s.nodes none->RunI p vars most n s out (out++[vs],0)
 | next {n:Nat} {s s':SI} {out:List (List T)} {vs:List T} {r:List (List T) × Int}:s.goals=[]->out.length≠most->ValsI s.st vars (some vs)->BackI p s.chs s.st.length s.nodes (some s')->RunI p vars most n s' (out++[vs]) r->RunI p vars most n s out r
structure o7 (cl:C):Prop where
 head:(okU 26 cl.head/\wT cl.head<=1048576)/\okM cl.head
 body:∀ t∈cl.body,(okU 26 t/\wT t<=1048576)/\okM t
def okGI (N:Nat) (g:GI):Prop:=((okU N g.t/\wT g.t<=1048576)/\okM g.t)/\0<=g.cut
def cutsG (gs:List GI):Prop:=gs.Pairwise fun a b=>b.cut<=a.cut
structure okCI (m:Nat) (k:Nat) (c:CI):Prop where
 good:Good c.binds.length c.binds
 tab:tabM c.binds
 goal:(okU c.binds.length c.goal/\wT c.goal<=1048576)/\okM c.goal
 rest:∀ g∈c.rest,okGI c.binds.length g/\g.cut<=k
 cuts:cutsG c.rest
 left:∀ i∈c.left,0<=i/\i<m
 node:0<=c.node/\c.node<c.taken
structure okCs (m n k:Nat) (cs:List CI):Prop where
 at_:∀ i (h:i<cs.length),okCI m i cs[i]/\cs[i].binds.length<=n/\cs[i].taken<=k
 srt:cs.Pairwise fun a b=>a.taken<=b.taken
structure xd (m:Nat) (s:SI):Prop where
 good:Good s.st.length s.st
 tab:tabM s.st
 goals:∀ g∈s.goals,okGI s.st.length g/\g.cut<=s.chs.length
 cuts:cutsG s.goals
 chs:okCs m s.st.length s.nodes.length s.chs
def fY:List CI->Nat
 | []=>0
 | c::cs=>c.left.length+fY cs
theorem pp:∀ a b:List CI,fY (a++b)=fY a+fY b
 | [],b=>by simp [fY]
 | x::a,b=>by rw [gt,fY,fY,pp a b,Nat.add_assoc]
theorem Ew:∀ (a:List CI) (k:Nat),fY (a.take k)<=fY a
 | [],k=>by simp [fY]
 | x::a,0=>by simp [fY]
 | x::a,k+1=>by
  have:=Ew a k
  rw [qq,fY,fY]
  omega
theorem okCs.nil (m n k:Nat):okCs m n k []:=⟨fun i h=>by simp at h,List.Pairwise.nil⟩
theorem okCs.snoc {m n k:Nat} {cs:List CI} {c:CI} (h:okCs m n k cs) (hc:okCI m cs.length c/\c.binds.length<=n/\c.taken=k):okCs m n k (cs++[c]):=by
 refine ⟨fun i hi=>?_,?_⟩
 ·rw [bh,bk,bG] at hi
  by_cases hic:i<cs.length
  ·rw [ft hic]; exact h.at_ i hic
  ·obtain rfl:i=cs.length:=by omega
   rw [eT (aM _)]
   simp only [dY,kQ]
   exact ⟨hc.1,hc.2.1,Gn hc.2.2⟩
 ·rw [KQ]
  refine ⟨h.srt,List.pairwise_singleton _ _,fun a ha b hb=>?_⟩
  simp only [bY] at hb
  subst hb
  obtain ⟨i,hi,rfl⟩:=yf ha
  rw [hc.2.2]
  exact (h.at_ i hi).2.2
theorem okCs.last {m n k:Nat} {cs:List CI} {c:CI} (h:okCs m n k (cs++[c])):okCs m n c.taken cs/\okCI m cs.length c/\c.binds.length<=n/\c.taken<=k:=by
 have hs:=h.srt
 rw [KQ] at hs
 refine ⟨⟨fun i hi=>?_,hs.1⟩,?_⟩
 ·have:=h.at_ i (by rw [bh]; omega)
  rw [ft hi] at this
  exact ⟨this.1,this.2.1,hs.2.2 _ (bQ hi) c (by simp)⟩
 ·have:=h.at_ cs.length (by rw [bh]; simp)
  rw [eT (aM _)] at this
  simpa using this
theorem okCs.mono {m n k n' k':Nat} {cs:List CI} (h:okCs m n k cs) (hn:n<=n') (hk:k<=k'):okCs m n' k' cs:=⟨fun i hi=>⟨(h.at_ i hi).1,il (h.at_ i hi).2.1 hn,il (h.at_ i hi).2.2 hk⟩,h.srt⟩
theorem okCs.take {m n k:Nat} {cs:List CI} (h:okCs m n k cs) (j:Nat):okCs m n k (cs.take j):=⟨fun i hi=>by
 rw [dN] at hi
 rw [Ik]
 exact h.at_ i (by omega),h.srt.sublist (List.take_sublist _ _)⟩
theorem Good.g26 {st:aj} (h:Good st.length st):Good (st.length+26) (g26 st):=h.grow 26
theorem tabM.g26 {st:aj} (h:tabM st):tabM (g26 st):=h.grow 26
theorem Good.to {st:aj} (h:Good st.length st) {n:Nat} (hn:st.length<=n):Good n (bU st n):=by
 have:=h.grow (n - st.length)
 rwa [show st.length+(n - st.length)=n by omega] at this
theorem tabM.to {st:aj} (h:tabM st) (n:Nat):tabM (bU st n):=h.grow _
theorem O9 {st:aj} {g:T} {cl:C} (hg:okU st.length g/\wT g<=1048576) (hcl:o7 cl):okJ (st.length+26) (.one g (dl st.length cl.head)):=by
 refine ⟨⟨gC (qJ ..) _ hg.1,hg.2⟩,?_,?_⟩
 ·have:=jG st.length cl.head hcl.head.1.1
  rwa [n3] at this
 ·rw [l6]; exact hcl.head.1.2
theorem TryI.ex {p:List C} (hp:∀ cl∈p,o7 cl) {g:T}:∀ (l:List Int) (st:aj),Good st.length st->(okU st.length g/\wT g<=1048576)->(∀ i∈l,0<=i/\i<p.length)->∃ o n,TryI p g l st o n
 | [],st,_,_,_=>⟨none,_,.nil⟩
 | i::l,st,hg,ho,hl=>by
  obtain ⟨h0,h1⟩:=hl i (bq ..)
  obtain ⟨j,rfl⟩:∃ j:Nat,i=j:=⟨i.toNat,by omega⟩
  have hj:j<p.length:=by omega
  have hgj:p[j]?=some p[j]:=iR hj
  have hcl:=hp _ (bQ hj)
  obtain ⟨r,st',hu⟩:=Cl _ _ hg.g26 (aM _) _ (O9 ho hcl)
  cases r with
  | true=>exact ⟨_,_,.hit hgj hu⟩
  | false=>
   have hlen:=n6 st
   obtain ⟨o,n,ht⟩:=TryI.ex hp l (g26 st) (by rw [hlen]; exact hg.g26) (by rw [hlen]; exact ⟨gC (qJ ..) _ ho.1,ho.2⟩) fun i hi=>hl i (bv _ hi)
   exact ⟨o,n,.miss hgj hu ht⟩
theorem TryI.ok {p:List C} (hp:∀ cl∈p,o7 cl) {g:T} {l:List Int} {st:aj} {o:Option HI} {n:Nat} (h:TryI p g l st o n):Good st.length st->tabM st->((okU st.length g/\wT g<=1048576)/\okM g)->
  st.length<=n/\(o=none->n=st.length+26 * l.length)/\∀ r,o=some r->r.cl∈p/\p[r.i]?=some r.cl/\st.length<=r.by_/\r.st.length=r.by_+26/\n=r.by_+26/\Good n r.st/\tabM r.st/\n+26 * r.l.length<=st.length+26 * l.length/\(∀ i∈r.l,i∈l):=by
 induction h with
 | nil=>intro _ _ _; exact ⟨aM _,fun _=>by simp,fun r hr=>by cases hr⟩
 | @hit i l cl st st' hi hu=>
  intro hg ht ho
  have hcl:=hp _ (du hi)
  obtain ⟨hg',_⟩:=hu.good hg.g26 (O9 ho.1 hcl)
  have ht':=hu.okM ht.g26 ⟨ho.2,mf _ _ hcl.head.2⟩
  refine ⟨by omega,(fun h=>by cases h),fun r hr=>?_⟩
  simp only [aT] at hr
  subst hr
  refine ⟨du hi,hi,aM _,hg'.len,rfl,hg',ht',?_,fun i hi=>bv _ hi⟩
  simp only [bk]
  omega
 | @miss i l cl st st' o n hi hu _ ih=>
  intro hg ht ho
  have hlen:=n6 st
  obtain ⟨h1,h2,h3⟩:=ih (by rw [hlen]; exact hg.g26) ht.g26 ⟨by rw [hlen]; exact ⟨gC (qJ ..) _ ho.1.1,ho.1.2⟩,ho.2⟩
  rw [hlen] at h1 h2 h3
  refine ⟨by omega,fun h=>by rw [h2 h,bk]; omega,fun r hr=>?_⟩
  obtain ⟨a1,a2,a3,a4,a5,a6,a7,a8,a9⟩:=h3 r hr
  exact ⟨a1,a2,by omega,a4,a5,a6,a7,by rw [bk]; omega,fun i hi=>bv _ (a9 i hi)⟩
end
section
open Go Go.RowKit
theorem vF (ns:List NI) (a:Nat) (i:Int):(Fr ns a i).length=ns.length:=by simp [Fr]
theorem cutsG.body {cl:C} {b:Nat} {k u:Int} {rest:List GI} (h:cutsG rest) (hr:∀ g∈rest,g.cut<=k):cutsG (r2 cl b k u rest):=by
 unfold r2 cutsG
 rw [KQ]
 refine ⟨?_,h,fun a ha b hb=>?_⟩
 ·rw [List.pairwise_map]
  exact OP.2 fun _=>EE _
 ·obtain ⟨t,_,rfl⟩:=iX.1 ha
  exact hr b hb
theorem okGI.mono {N M:Nat} (h:N<=M) {g:GI} (hg:okGI N g):okGI M g:=⟨⟨⟨gC h _ hg.1.1.1,hg.1.1.2⟩,hg.1.2⟩,hg.2⟩
theorem Mz {p:List C} (hp:∀ cl∈p,o7 cl) {m:Nat} (hm:m=p.length) {g:T} {l:List Int} {b:aj} {r:HI} {n:Nat} (h:TryI p g l b (some r) n) (hg:Good b.length b) (ht:tabM b) (ho:(okU b.length g/\wT g<=1048576)/\okM g)
  {cs:List CI} {ns:List NI} {at_:Int} {rest:List GI} (hl:∀ i∈l,0<=i/\i<p.length) (hat:0<=at_/\at_<ns.length) (hr:∀ g∈rest,okGI b.length g/\g.cut<=cs.length) (hcu:cutsG rest) (hcs:okCs m b.length ns.length cs) :
  xd m (jL cs ns g at_ rest b r)/\(jL cs ns g at_ rest b r).st.length+26 * fY (jL cs ns g at_ rest b r).chs<=b.length+26 * l.length+26 * fY cs/\(jL cs ns g at_ rest b r).nodes.length=ns.length/\b.length<=(jL cs ns g at_ rest b r).st.length:=by
 subst hm
 obtain ⟨h1,_,h3⟩:=h.ok hp hg ht ho
 obtain ⟨a1,a2,a3,a4,a5,a6,a7,a8,a9⟩:=h3 r rfl
 have hcl:=hp _ a1
 have hlen:r.st.length=n:=by omega
 have hchs:okCs p.length n ns.length (cs++(if r.l=[] then [] else [⟨g,at_,rest,r.l,b,ns.length⟩])):=by
  have h0:=hcs.mono (n':=n) (k':=ns.length) h1 (aM _)
  split
  ·rwa [cX]
  ·exact h0.snoc ⟨⟨hg,ht,ho,hr,hcu,fun i hi=>hl i (a9 i hi),hat⟩,h1,rfl⟩
 have hlc:cs.length<=(cs++(if r.l=[] then [] else [(⟨g,at_,rest,r.l,b,ns.length⟩:CI)])).length:=by rw [bh]; omega
 refine ⟨⟨?_,a7,?_,hcu.body fun g hg=>(hr g hg).2,?_⟩,?_,vF _ _ _,by show b.length<=r.st.length; omega⟩
 ·show Good r.st.length r.st
  rw [hlen]; exact a6
 ·intro x hx
  have hx':x∈r2 r.cl r.by_ cs.length at_ rest:=hx
  show okGI r.st.length x/\x.cut<=((cs++(if r.l=[] then [] else [(⟨g,at_,rest,r.l,b,ns.length⟩:CI)])).length:Int)
  unfold r2 at hx'
  rcases cd.1 hx' with hx'|hx'
  ·obtain ⟨t,ht',rfl⟩:=iX.1 hx'
   obtain ⟨⟨q1,q2⟩,q3⟩:=hcl.body t ht'
   refine ⟨⟨⟨⟨?_,?_⟩,mf _ _ q3⟩,by simp only; omega⟩,by simp only; omega⟩
   ·have:=jG r.by_ t q1
    rw [n3] at this
    rw [a4]; exact this
   ·simp only [l6]; exact q2
  ·obtain ⟨q1,q2⟩:=hr x hx'
   exact ⟨q1.mono (by omega),by omega⟩
 ·show okCs p.length r.st.length (Fr ns at_.toNat r.i).length (cs++(if r.l=[] then [] else [⟨g,at_,rest,r.l,b,ns.length⟩]))
  rw [hlen,vF]; exact hchs
 ·show r.st.length+26 * fY (cs++(if r.l=[] then [] else [(⟨g,at_,rest,r.l,b,ns.length⟩:CI)]))<=_
  rw [pp]
  split
  ·simp only [fY]; omega
  ·simp only [fY]; omega
theorem okCI.grow {m k n:Nat} {c:CI} (h:okCI m k c) (hn:c.binds.length<=n):Good (bU c.binds n).length (bU c.binds n)/\tabM (bU c.binds n)/\((okU (bU c.binds n).length c.goal/\wT c.goal<=1048576)/\okM c.goal)/\
  ∀ g∈c.rest,okGI (bU c.binds n).length g/\g.cut<=k:=by
 rw [dI hn]
 exact ⟨h.good.to hn,h.tab.to n,⟨⟨gC hn _ h.goal.1.1,h.goal.1.2⟩,h.goal.2⟩,fun g hg=>⟨(h.rest g hg).1.mono hn,(h.rest g hg).2⟩⟩
theorem BackI.ex {p:List C} (hp:∀ cl∈p,o7 cl):∀ (L:Nat) (cs:List CI) (n:Nat) (ns:List NI),cs.length=L->okCs p.length n ns.length cs->∃ o,BackI p cs n ns o
 | 0,cs,n,ns,hL,_=>by
  obtain rfl:=iW hL
  exact ⟨none,.nil⟩
 | L+1,cs,n,ns,hL,hcs=>by
  obtain ⟨init,c,rfl⟩:∃ init c,cs=init++[c]:=⟨cs.dropLast,cs.getLast (by intro e; rw [e] at hL; simp at hL),(LZ _).symm⟩
  rw [bh,bk,bG] at hL
  obtain ⟨h1,h2,h3,h4⟩:=hcs.last
  obtain ⟨g1,g2,g3,g4⟩:=h2.grow h3
  obtain ⟨o,m,ht⟩:=TryI.ex hp c.left (bU c.binds n) g1 g3.1 h2.left
  cases o with
  | some r=>exact ⟨_,.hit ht⟩
  | none=>
   obtain ⟨k1,_,_⟩:=ht.ok hp g1 g2 g3
   rw [dI h3] at k1
   obtain ⟨o,ho⟩:=BackI.ex hp L init m (ns.take c.taken) (by omega) (h1.mono k1 (by rw [dN]; omega))
   exact ⟨o,.miss ht ho⟩
theorem BackI.ok {p:List C} (hp:∀ cl∈p,o7 cl) {cs:List CI} {n:Nat} {ns:List NI} {o:Option SI} (h:BackI p cs n ns o):okCs p.length n ns.length cs->∀ s,o=some s->xd p.length s/\s.st.length+26 * fY s.chs<=n+26 * fY cs/\s.nodes.length<=ns.length/\n<=s.st.length:=by
 induction h with
 | nil=>intro _ s hs; cases hs
 | @hit cs c n m ns r ht=>
  intro hcs s hs
  simp only [aT] at hs
  subst hs
  obtain ⟨h1,h2,h3,h4⟩:=hcs.last
  obtain ⟨g1,g2,g3,g4⟩:=h2.grow h3
  have hlt:(ns.take c.taken).length=c.taken:=by rw [dN]; omega
  have hl:=dI h3
  obtain ⟨q1,q2,q3,q4⟩:=Mz hp rfl ht g1 g2 g3 (cs:=cs) (ns:=ns.take c.taken) (at_:=c.node) (rest:=c.rest) h2.left (by rw [hlt]; exact h2.node) g4 h2.cuts (by rw [hlt,hl]; exact h1)
  rw [hl] at q2 q4
  refine ⟨q1,?_,by rw [q3,dN]; omega,q4⟩
  rw [pp,fY,fY]
  omega
 | @miss cs c n m ns o ht _ ih=>
  intro hcs s hs
  obtain ⟨h1,h2,h3,h4⟩:=hcs.last
  obtain ⟨g1,g2,g3,g4⟩:=h2.grow h3
  obtain ⟨k1,k2,_⟩:=ht.ok hp g1 g2 g3
  have hl:=dI h3
  have k2:=k2 rfl
  rw [hl] at k1 k2
  have hlt:(ns.take c.taken).length=c.taken:=by rw [dN]; omega
  obtain ⟨q1,q2,q3,q4⟩:=ih (by rw [hlt]; exact h1.mono k1 (aM _)) s hs
  refine ⟨q1,?_,by rw [dN] at q3; omega,by omega⟩
  rw [pp,fY,fY]
  omega
theorem vu {N:Nat} {st:aj} (hg:Good N st) {t u:T} (ht:(okU N t/\wT t<=1048576)/\okM t) (hm:tabM st) (hu:Res st (.one t u)):okU N u/\okM u:=⟨lg hg hu ht.1.1,hu.okM hm ht.2⟩
theorem gI {m n:Nat} {ns:List NI} {cs:List CI} (h:okCs m n ns.length cs) (x:NI):okCs m n (ns++[x]).length cs:=h.mono (aM _) (by simp)
theorem StepI.ex {p:List C} (hp:∀ cl∈p,o7 cl) (nc:Bool) {s:SI} (hs:xd p.length s) (hg:s.goals≠[]):∃ o e,StepI p nc s o e:=by
 obtain ⟨g,gs,hgs⟩:∃ g gs,s.goals=g::gs:=by
  cases h:s.goals with
  | nil=>exact absurd h hg
  | cons g gs=>exact ⟨g,gs,rfl⟩
 have hgo:=hs.goals
 rw [hgs] at hgo
 have hg1:=hgo g (bq ..)
 obtain ⟨t,ht⟩:=OL hs.good g.t hg1.1.1.1.1
 obtain ⟨hut,hmt⟩:=vu hs.good hg1.1.1 hs.tab ht
 cases hsm:bS t with
 | false=>exact ⟨_,_,.large hgs ht hsm⟩
 | true=>
  have hw:=gY hsm hut
  cases hc:fp t with
  | true=>
   cases nc with
   | true=>exact ⟨_,_,.noCut hgs ht hsm hc rfl⟩
   | false=>exact ⟨_,_,.cut hgs ht hsm hc rfl⟩
  | false=>
   have hns:=gI hs.chs ⟨t,g.up,-1⟩
   cases hb:cr t with
   | true=>
    obtain ⟨c,st,hB⟩:=Blt.ex hs.good hb ⟨hut,by omega⟩
    by_cases h0:c=0
    ·subst h0; exact ⟨_,_,.solved hgs ht hsm hc hb hB⟩
    by_cases h1:c=1
    ·subst h1
     obtain ⟨o,ho⟩:=BackI.ex hp _ s.chs s.st.length (s.nodes++[(⟨t,g.up,-1⟩:NI)]) rfl hns
     exact ⟨_,_,.fail hgs ht hsm hc hb hB ho⟩
    ·exact ⟨_,_,.err hgs ht hsm hc hb hB h0 h1⟩
   | false=>
    by_cases hf:iz p t=[]
    ·exact ⟨_,_,.unknown hgs ht hsm hc hb hf⟩
    obtain ⟨o,m,hT⟩:=TryI.ex hp (iz p t) s.st hs.good ⟨hut,by omega⟩ (nY p t)
    cases o with
    | some r=>exact ⟨_,_,.took hgs ht hsm hc hb hf hT⟩
    | none=>
     obtain ⟨k1,_,_⟩:=hT.ok hp hs.good hs.tab ⟨⟨hut,by omega⟩,hmt⟩
     obtain ⟨o,ho⟩:=BackI.ex hp _ s.chs m (s.nodes++[(⟨t,g.up,-1⟩:NI)]) rfl (hns.mono k1 (aM _))
     exact ⟨_,_,.back hgs ht hsm hc hb hf hT ho⟩
theorem StepI.ok {p:List C} (hp:∀ cl∈p,o7 cl) {nc:Bool} {s:SI} {o:Option SI} {e:Int} (h:StepI p nc s o e) (hs:xd p.length s):∀ s',o=some s'->xd p.length s'/\s'.st.length+26 * fY s'.chs<=s.st.length+26 * fY s.chs+26 * p.length/\s'.nodes.length<=s.nodes.length+1/\e=-1/\s.st.length<=s'.st.length:=by
 have hgood:=hs.good
 cases h with
 | large=>intro s' h; cases h
 | noCut=>intro s' h; cases h
 | err=>intro s' h; cases h
 | unknown=>intro s' h; cases h
 | @cut g gs t hgs ht hsm hc hnc=>
  intro s' h
  simp only [aT] at h
  subst h
  have hgo:=hs.goals
  have hcu:=hs.cuts
  rw [hgs] at hgo hcu
  have hg1:=hgo g (bq ..)
  have hcut:=hg1.1.2
  have hle:=hg1.2
  rw [cutsG,Lh] at hcu
  have hlt:(s.chs.take g.cut.toNat).length=g.cut.toNat:=by rw [dN]; omega
  refine ⟨⟨hs.good,hs.tab,fun x hx=>⟨(hgo x (bv _ hx)).1,?_⟩,hcu.2,(gI hs.chs _).take _⟩,?_,by simp,rfl,aM _⟩
  ·have:=hcu.1 x hx
   show x.cut<=((s.chs.take g.cut.toNat).length:Int)
   rw [hlt]; omega
  ·have:=Ew s.chs g.cut.toNat
   show s.st.length+26 * fY (s.chs.take g.cut.toNat)<=_
   omega
 | @solved g gs t st hgs ht hsm hc hb hB=>
  intro s' h
  simp only [aT] at h
  subst h
  have hgo:=hs.goals
  have hcu:=hs.cuts
  rw [hgs] at hgo hcu
  have hg1:=hgo g (bq ..)
  obtain ⟨hut,hmt⟩:=vu hs.good hg1.1.1 hs.tab ht
  have hw:=gY hsm hut
  have hgd:=hB.good hs.good hb ⟨hut,by omega⟩
  have htb:=hB.okM hs.tab hmt
  have hlen:=hgd.len
  rw [cutsG,Lh] at hcu
  refine ⟨⟨by show Good st.length st; rw [hlen]; exact hgd,htb,fun x hx=>?_,hcu.2,?_⟩,?_,by simp,rfl,Gn hlen.symm⟩
  ·show okGI st.length x/\_
   rw [hlen]
   exact hgo x (bv _ hx)
  ·show okCs p.length st.length (s.nodes++[(⟨t,g.up,-1⟩:NI)]).length s.chs
   rw [hlen]; exact gI hs.chs _
  ·show st.length+26 * fY s.chs<=_
   omega
 | @fail g gs t st o hgs ht hsm hc hb hB ho=>
  intro s' h
  subst h
  obtain ⟨q1,q2,q3,q4⟩:=ho.ok hp (gI hs.chs _) s' rfl
  rw [bh] at q3
  exact ⟨q1,by omega,by simpa using q3,rfl,q4⟩
 | @took g gs t r m hgs ht hsm hc hb hf hT=>
  intro s' h
  simp only [aT] at h
  subst h
  have hgo:=hs.goals
  have hcu:=hs.cuts
  rw [hgs] at hgo hcu
  have hg1:=hgo g (bq ..)
  obtain ⟨hut,hmt⟩:=vu hs.good hg1.1.1 hs.tab ht
  have hw:=gY hsm hut
  rw [cutsG,Lh] at hcu
  obtain ⟨q1,q2,q3,q4⟩:=Mz hp rfl hT hs.good hs.tab ⟨⟨hut,by omega⟩,hmt⟩ (cs:=s.chs) (ns:=s.nodes++[(⟨t,g.up,-1⟩:NI)]) (at_:=s.nodes.length) (rest:=gs) (nY p t) (by simp; omega) (fun x hx=>hgo x (bv _ hx)) hcu.2 (gI hs.chs _)
  have hl:(iz p t).length<=p.length:=mQ _ _ _
  exact ⟨q1,by omega,by rw [q3]; simp,rfl,q4⟩
 | @back g gs t m o hgs ht hsm hc hb hf hT ho=>
  intro s' h
  subst h
  have hgo:=hs.goals
  rw [hgs] at hgo
  have hg1:=hgo g (bq ..)
  obtain ⟨hut,hmt⟩:=vu hs.good hg1.1.1 hs.tab ht
  have hw:=gY hsm hut
  obtain ⟨k1,k2,_⟩:=hT.ok hp hs.good hs.tab ⟨⟨hut,by omega⟩,hmt⟩
  have k2:=k2 rfl
  have hl:(iz p t).length<=p.length:=mQ _ _ _
  obtain ⟨q1,q2,q3,q4⟩:=ho.ok hp ((gI hs.chs _).mono k1 (aM _)) s' rfl
  rw [bh] at q3
  exact ⟨q1,by omega,by simpa using q3,rfl,by omega⟩
theorem Qh {N:Nat} {st:aj} (h:Good N st) {vars:List Int} (hv:∀ n∈vars,0<=n/\n<N):∃ o,ValsI st vars o:=by
 obtain ⟨us,hus⟩:=ux h (vars.map QH) (re fun t ht=>by
  obtain ⟨n,hn,rfl⟩:=iX.1 ht
  obtain ⟨h0,h1⟩:=hv n hn
  show okU N (.mk 1 n emptyB [])
  rw [okU,cS]
  exact ⟨by decide,fun _=>⟨h0,by omega,rfl,rfl⟩,trivial,zb⟩)
 exact ⟨_,us,hus,rfl⟩
theorem RunI.ex {p:List C} (hp:∀ cl∈p,o7 cl) {vars:List Int} (hv:∀ n∈vars,0<=n/\n<26) (most:Nat):∀ (M n:Nat) (s:SI) (out:List (List T)),n+(most - out.length)<=M->out.length<=most->xd p.length s->26<=s.st.length->∃ r,RunI p vars most n s out r
 | 0,n,s,out,hM,ho,hs,h26=>by
  obtain rfl:n=0:=by omega
  by_cases hg:s.goals=[]
  ·exact ⟨_,.more hg (by omega)⟩
  ·exact ⟨_,.fuel hg⟩
 | M+1,n,s,out,hM,ho,hs,h26=>by
  by_cases hg:s.goals=[]
  ·by_cases hm:out.length=most
   ·exact ⟨_,.more hg hm⟩
   obtain ⟨v,hv1⟩:=Qh hs.good (vars:=vars) fun n hn=>⟨(hv n hn).1,by have:=(hv n hn).2; omega⟩
   cases v with
   | none=>exact ⟨_,.large hg hm hv1⟩
   | some vs=>
    obtain ⟨b,hb⟩:=BackI.ex hp _ s.chs s.st.length s.nodes rfl hs.chs
    cases b with
    | none=>exact ⟨_,.last hg hm hv1 hb⟩
    | some s'=>
     obtain ⟨q1,_,_,q4⟩:=hb.ok hp hs.chs s' rfl
     have hl:(out++[vs]).length=out.length+1:=by simp
     obtain ⟨r,hr⟩:=RunI.ex hp hv most M n s' (out++[vs]) (by omega) (by omega) q1 (by omega)
     exact ⟨r,.next hg hm hv1 hb hr⟩
  ·cases n with
   | zero=>exact ⟨_,.fuel hg⟩
   | succ n=>
    obtain ⟨o,e,hst⟩:=StepI.ex hp false hs hg
    cases o with
    | none=>exact ⟨_,.stop hg hst⟩
    | some s'=>
     obtain ⟨q1,_,_,_,q4⟩:=hst.ok hp hs s' rfl
     obtain ⟨r,hr⟩:=RunI.ex hp hv most M n s' out (by omega) ho q1 (by omega)
     exact ⟨r,.step hg hst hr⟩
def io (q:List T):SI:=⟨List.replicate 26 none,q.map fun t=>⟨t,0,-1⟩,[],[]⟩
theorem Nx (m:Nat) {q:List T} (h:∀ t∈q,(okU 26 t/\wT t<=1048576)/\okM t):xd m (io q):=by
 have hl:(List.replicate 26 (none:Option T)).length=26:=by simp
 refine ⟨by show Good (List.replicate 26 (none:Option T)).length _; rw [hl]; exact DS 26,tabM.none 26,fun g hg=>?_,?_,okCs.nil _ _ _⟩
 ·obtain ⟨t,ht,rfl⟩:=iX.1 hg
  show okGI (List.replicate 26 (none:Option T)).length _/\_
  rw [hl]
  exact ⟨⟨h t ht,EE _⟩,EE _⟩
 ·show List.Pairwise _ (q.map _)
  rw [List.pairwise_map]
  exact OP.2 fun _=>EE _
theorem JF {cl:C} (h:bX cl=true):o7 cl:=by
 obtain ⟨h1,h2,h3⟩:=gD h
 have hm:=HS h
 have hb:=h
 rw [bX] at hb
 simp only [bN,bC,ed] at hb
 obtain ⟨hl,hgs,hvh,_⟩:=hb
 have hwh:=qY hvh
 exact ⟨⟨⟨h1,by omega⟩,hm.hd⟩,fun t ht=>⟨⟨h2 t ht,by have:=qY (lb (hgs t ht)); omega⟩,hm.bd t ht⟩⟩
end
end Go.Proofs.YtcpgagfdeflbkaaGreatDoor
