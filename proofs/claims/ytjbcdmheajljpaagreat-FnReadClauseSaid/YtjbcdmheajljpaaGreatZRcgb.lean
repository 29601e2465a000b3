/- Made by program: a tactic that computes a function's shallow form out of the program, with the proof that it implies Calls. -/
import Derived.Test.YtjbcdmheajljpaaGreatZRcS
import Derived.Test.YtjbcdmheajljpaaGreatProg
import Derived.KernelRfl
set_option maxRecDepth 100000
namespace Go.Proofs.YtjbcdmheajljpaaGreat
open Go
theorem mixed:Tryz.prog.follows .mixedOrders=true:=by kernel_rfl
structure Qe {α:Sort _} (a b:α):Type where
  e:a=b
def Qe.rfl {α:Sort _} {a:α}:Qe a a:=⟨Eq.refl a⟩
def Qe.w {α:Sort _} {a b c:α} (h:a=b) (e:Qe b c):Qe a c:=⟨h.trans e.e⟩
def Qe.ev {α:Sort _} {a b:α} (h:a=b):Qe a b:=⟨h⟩
def Qe.app {α β:Sort _} {f g:α->β} {a b:α} (e:Qe a b) (h:Qe f g):Qe (f a) (g b):=⟨by rw [e.e,h.e]⟩
def Qe.cgV {β:Sort _} {f g:Value->β} {a b:Value} (e:Qe a b) (h:Qe f g):Qe (f a) (g b):=e.app h
def Qe.cgW {β:Sort _} {f g:World->β} {a:World} (h:Qe f g):Qe (f a) (g a):=Qe.rfl.app h
def Qe.cgD {β:Sort _} {f g:(Nat->Bool)->β} {a b:Nat->Bool} (e:Qe a b) (h:Qe f g):Qe (f a) (g b):=e.app h
def Qe.set {i j:Nat} {a b:Nat->Bool} (e:Qe i j) (h:Qe a b):Qe (aF a i) (aF b j):=⟨by rw [e.e,h.e]⟩
def Qe.tr {α:Sort _} {a b c:α} (e:Qe a b) (h:c=b):Qe a c:=⟨by rw [e.e,h]⟩
def Qe.clo {ρ:Env} {x:Operand} {v:Value} (e:Qe (evE ρ x) v):Qe (cl ρ x) (.const v):=⟨by rw [cl,e.e]⟩
def Qe.omap {α β:Type} {f:α->β} {x:Option α} {y:Option β} (e:Qe (x.map f) y):Qe (x.map f) y:=e
def Qe.cons {α:Type} {a b:α} {l m:List α} (e:Qe a b) (h:Qe l m):Qe (a::l) (b::m):=⟨by rw [e.e,h.e]⟩
def Qe.tup {l m:List Value} (h:Qe l m):Qe (Value.tuple l.toArray) (Value.tuple m.toArray):=⟨by rw [h.e]⟩
def Qe.sop {o p:Op} {t u:TypeId} (e:Qe o p) (h:Qe t u):Qe (sOp o t) (sOp p u):=⟨by rw [e.e,h.e]⟩
def Qe.sbin {o:BinOp} {t:TypeId} {a b c d:Bool} {x y z w:Value} (e:Qe a b) (f:Qe c d) (g:Qe x y) (h:Qe z w):Qe (el o t a c x z) (el o t b d y w):=⟨by rw [e.e,f.e,g.e,h.e]⟩
def Qe.scall {v w:Value} {l m:List Value} (e:Qe v w) (h:Qe l m):Qe (gn v l) (gn w m):=⟨by rw [e.e,h.e]⟩
def Qe.sblt {b:Builtin} {s t:Array TypeId} {u v:TypeId} {k l:List Bool} {m n:List Value} (e:Qe s t) (f:Qe u v) (g:Qe k l) (h:Qe m n):Qe (co b s u k m) (co b t v l n):=⟨by rw [e.e,f.e,g.e,h.e]⟩
structure IsC (T N:Type) where
  f:N->T
def IsC.nil {α:Type}:IsC (Cur α []) α:=⟨fun y=>y⟩
def IsC.cons {α N:Type} {m:Nat} {l:List Nat} (c:IsC (Cur α l) N):IsC (Cur α (m::l)) (Value->N):=⟨fun y v=>c.f (y v)⟩
def IsC.fn {T N:Type} (c:IsC T N):IsC ((Nat->Bool)->T) ((Nat->Bool)->N):=⟨fun y v=>c.f (y v)⟩
def shJ (A:Prop):Type:={B:Prop // B->A}
def Zy {A B:Prop} (h:A=B) (x:shJ B):shJ A:=⟨x.1,fun y=>h ▸ x.2 y⟩
def Uj {P:Program} {s s1:Sem Next} {w:World} {K:Value->World->Prop} (e:Qe s s1) (h:∀ v w',shJ (K v w')):shJ (Run P s w K):=
  ⟨Run P s1 w fun v w'=>(h v w').1,by obtain ⟨e⟩:=e; subst e; exact fun hh=>Run.mono hh fun v w'=>(h v w').2⟩
def RF {v v1:Value} {A B:Prop} (e:Qe v v1) (h:shJ A) (h2:shJ B):shJ (CondV v A B):=
  ⟨CondV v1 h.1 h2.1,by obtain ⟨e⟩:=e; subst e; exact fun hh=>CondV.mono hh h.2 h2.2⟩
def Nr {v v1:Value} {b:Bool} {A B:Prop} (e:Qe v v1) (h:shJ A) (h2:shJ B):shJ (aI v b A B):=
  ⟨aI v1 b h.1 h2.1,by
    obtain ⟨e⟩:=e; subst e
    unfold aI; split
    · split
      · exact h.2
      · exact h2.2
    · exact h2.2⟩
def QH {P:Program} {T:TypeId} {v v1:Value} {w:World} {K:Value->Prop} (e:Qe v v1) (h:∀ u,shJ (K u)):shJ (bg P T v w K):=
  ⟨bg P T v1 w fun u=>(h u).1,by obtain ⟨e⟩:=e; subst e; exact fun ⟨u,h1,h2⟩=>⟨u,h1,(h u).2 h2⟩⟩
def T9 {A B:Prop} (h:shJ A) (h2:shJ B):shJ (A/\B):=⟨h.1/\h2.1,fun ⟨x,y⟩=>⟨h.2 x,h2.2 y⟩⟩
def T1 {A A1 B:Prop} (e:Qe A A1) (h:shJ B):shJ (A->B):=⟨A1->h.1,by obtain ⟨e⟩:=e; subst e; exact fun x y=>h.2 (x y)⟩
def TW {α:Sort _} {A:α->Prop} (h:∀ x,shJ (A x)):shJ (∀ x,A x):=⟨∀ x,(h x).1,fun x y=>(h y).2 (x y)⟩
def W8 {T N:Type} {p:T->Prop} (c:IsC T N) (h:∀ y,shJ (p (c.f y))):shJ (∃ x,p x):=⟨∃ y,(h y).1,fun ⟨y,hy⟩=>⟨c.f y,(h y).2 hy⟩⟩
def Vt {R:Ending->World->Prop} {w:World} {e e1:Ending} (h:Qe e e1):shJ (R e w):=⟨R e1 w,by obtain ⟨h⟩:=h; subst h; exact id⟩
def Xh {a b a1 b1:Nat} (e:Qe a a1) (h:Qe b b1):shJ (a<b):=⟨a1<b1,by obtain ⟨e⟩:=e; obtain ⟨h⟩:=h; subst e h; exact id⟩
def Xc {A B:Prop} (e:Qe A B):shJ A:=⟨B,by obtain ⟨e⟩:=e; subst e; exact id⟩
def VJ {A:Prop}:shJ A:=⟨A,id⟩
theorem Ar {A B:Prop} {h:A=B} {x:shJ B}:(Zy h x).1=x.1:=rfl
theorem pL {P:Program} {s s1:Sem Next} {w:World} {K:Value->World->Prop} {e:Qe s s1} {h:∀ v w',shJ (K v w')}:(Uj (P:=P) (w:=w) e h).1=Run P s1 w fun v w'=>(h v w').1:=rfl
theorem mA {v v1:Value} {A B:Prop} {e:Qe v v1} {h:shJ A} {h2:shJ B}:(RF e h h2).1=CondV v1 h.1 h2.1:=rfl
theorem kR {v v1:Value} {b:Bool} {A B:Prop} {e:Qe v v1} {h:shJ A} {h2:shJ B}:(Nr (b:=b) e h h2).1=aI v1 b h.1 h2.1:=rfl
theorem mC {P:Program} {T:TypeId} {v v1:Value} {w:World} {K:Value->Prop} {e:Qe v v1} {h:∀ u,shJ (K u)}:(QH (P:=P) (T:=T) (w:=w) e h).1=bg P T v1 w fun u=>(h u).1:=rfl
theorem pJ {A B:Prop} {h:shJ A} {h2:shJ B}:(T9 h h2).1=(h.1/\h2.1):=rfl
theorem po {A A1 B:Prop} {e:Qe A A1} {h:shJ B}:(T1 e h).1=(A1->h.1):=rfl
theorem pu {α:Sort _} {A:α->Prop} {h:∀ x,shJ (A x)}:(TW h).1=∀ x,(h x).1:=rfl
theorem tR {T N:Type} {p:T->Prop} {c:IsC T N} {h:∀ y,shJ (p (c.f y))}:(W8 c h).1=∃ y,(h y).1:=rfl
theorem pI {R:Ending->World->Prop} {w:World} {e e1:Ending} {h:Qe e e1}:(Vt (R:=R) (w:=w) h).1=R e1 w:=rfl
theorem tX {a b a1 b1:Nat} {e:Qe a a1} {h:Qe b b1}:(Xh e h).1=(a1<b1):=rfl
theorem ue {A B:Prop} {e:Qe A B}:(Xc e).1=B:=rfl
theorem o8 {A:Prop}:(VJ (A:=A)).1=A:=rfl
attribute [local irreducible] Run CondV aI bg sOp el cr cf fY gn co Tryz.prog aF undef
def EB {A:Prop} (x:shJ A:=by (intros; repeat' (first|((with_reducible apply Xh) <;> ((with_reducible apply Qe.w); (next=>(conv=>(lhs; whnf))); apply Qe.tr; (next=>(first|((with_reducible apply Qe.cgW); (repeat ((with_reducible apply Qe.cgV); (next=>((with_reducible apply Qe.ev); (conv=>(lhs; whnf)))))); (first|((with_reducible apply Qe.cgD); (repeat ((with_reducible apply Qe.set); (next=>((with_reducible apply Qe.ev); (first|(conv=>(lhs; cbv))|exact Eq.refl _))))); exact Qe.rfl; exact Qe.rfl)|exact Qe.rfl))|((with_reducible apply Qe.ev); (first|(conv=>(lhs; cbv))|exact Eq.refl _)))); rfl))|((with_reducible apply Zy); (next=>(conv=>(lhs; whnf))); (first|((with_reducible apply Uj); (next=>((with_reducible apply Qe.w); (next=>(conv=>(lhs; whnf))); (first|((with_reducible apply Qe.sop); (next=>((with_reducible apply Qe.w); (next=>(conv=>(lhs; whnf))); (repeat ((with_reducible apply Qe.app); (next=>(first|((with_reducible apply Qe.clo); (next=>((with_reducible apply Qe.ev); (conv=>(lhs; whnf)))))|((with_reducible apply Qe.omap); (next=>((with_reducible apply Qe.ev); (first|(conv=>(lhs; cbv))|exact Eq.refl _))))|exact Qe.rfl)))); exact Qe.rfl)); (next=>((with_reducible apply Qe.ev); (with_reducible (conv=>(lhs; whnf))))))|((with_reducible apply Qe.sbin); (next=>((with_reducible apply Qe.ev); (conv=>(lhs; whnf)))); (next=>((with_reducible apply Qe.ev); (conv=>(lhs; whnf)))); (next=>((with_reducible apply Qe.ev); (conv=>(lhs; whnf)))); (next=>((with_reducible apply Qe.ev); (conv=>(lhs; whnf)))))|((with_reducible apply Qe.scall); (next=>((with_reducible apply Qe.ev); (conv=>(lhs; whnf)))); (next=>((repeat ((with_reducible apply Qe.w); (next=>(conv=>(lhs; whnf))); (with_reducible apply Qe.cons); (next=>((with_reducible apply Qe.ev); (conv=>(lhs; whnf)))))); (with_reducible apply Qe.ev); (conv=>(lhs; whnf)))))|((with_reducible apply Qe.sblt); (next=>((with_reducible apply Qe.ev); (with_reducible (conv=>(lhs; whnf))))); (next=>((with_reducible apply Qe.ev); (with_reducible (conv=>(lhs; whnf))))); (next=>((repeat ((with_reducible apply Qe.w); (next=>(conv=>(lhs; whnf))); (with_reducible apply Qe.cons); (next=>((with_reducible apply Qe.ev); (conv=>(lhs; whnf)))))); (with_reducible apply Qe.ev); (conv=>(lhs; whnf)))); (next=>((repeat ((with_reducible apply Qe.w); (next=>(conv=>(lhs; whnf))); (with_reducible apply Qe.cons); (next=>((with_reducible apply Qe.ev); (conv=>(lhs; whnf)))))); (with_reducible apply Qe.ev); (conv=>(lhs; whnf)))))|(repeat ((with_reducible apply Qe.app); (next=>((with_reducible apply Qe.ev); (first|(conv=>(lhs; cbv))|exact Eq.refl _))))); exact Qe.rfl))); intro _ _)|((with_reducible apply RF); (next=>((with_reducible apply Qe.ev); (conv=>(lhs; whnf)))))|((with_reducible apply Nr); (next=>((with_reducible apply Qe.ev); (conv=>(lhs; whnf)))))|((with_reducible apply QH); (next=>((with_reducible apply Qe.ev); (conv=>(lhs; whnf)))); intro _)|((with_reducible apply Vt); (next=>((with_reducible apply Qe.app); (next=>((with_reducible apply Qe.w); (next=>(conv=>(lhs; whnf))); (first|((with_reducible apply Qe.tup); (next=>((repeat ((with_reducible apply Qe.w); (next=>(conv=>(lhs; whnf))); (with_reducible apply Qe.cons); (next=>((with_reducible apply Qe.ev); (conv=>(lhs; whnf)))))); (with_reducible apply Qe.ev); (conv=>(lhs; whnf)))))|exact Qe.rfl))); exact Qe.rfl)))|(with_reducible apply T9)|(apply W8; (case c=>((refine id ?_); (try apply IsC.fn); (repeat apply IsC.cons); exact IsC.nil)); intro _)|((with_reducible apply T1); (next=>((with_reducible apply Qe.w); (next=>(conv=>(lhs; whnf))); apply Qe.tr; (next=>(first|((with_reducible apply Qe.cgW); (repeat ((with_reducible apply Qe.cgV); (next=>((with_reducible apply Qe.ev); (conv=>(lhs; whnf)))))); (first|((with_reducible apply Qe.cgD); (repeat ((with_reducible apply Qe.set); (next=>((with_reducible apply Qe.ev); (first|(conv=>(lhs; cbv))|exact Eq.refl _))))); exact Qe.rfl; exact Qe.rfl)|exact Qe.rfl))|((with_reducible apply Qe.ev); (first|(conv=>(lhs; cbv))|exact Eq.refl _)))); rfl)))|((with_reducible apply TW); intro _)|((with_reducible apply Xc); ((with_reducible apply Qe.w); (next=>(conv=>(lhs; whnf))); apply Qe.tr; (next=>(first|((with_reducible apply Qe.cgW); (repeat ((with_reducible apply Qe.cgV); (next=>((with_reducible apply Qe.ev); (conv=>(lhs; whnf)))))); (first|((with_reducible apply Qe.cgD); (repeat ((with_reducible apply Qe.set); (next=>((with_reducible apply Qe.ev); (first|(conv=>(lhs; cbv))|exact Eq.refl _))))); exact Qe.rfl; exact Qe.rfl)|exact Qe.rfl))|((with_reducible apply Qe.ev); (first|(conv=>(lhs; cbv))|exact Eq.refl _)))); rfl))|exact VJ))))):shJ A:=x
theorem pM {A:Prop} {x:shJ A}:(EB x).1=x.1:=rfl
def BU (f:FuncId):Type:={S:World->(Ending->World->Prop)->Prop // ∀ {w R},S w R->Calls Tryz.prog f #[] w R}
def Y6 (fn:Func) (an:An) (S:World->(Ending->World->Prop)->Prop):Prop:=∃ s:∀ w R,shJ (vc Tryz.prog (oE fn) an (Mu Tryz.prog fn.results.toList R) (pR 0 [] fun _=>undef) w),(fun w R=>(s w R).1)=S
abbrev nR {f:FuncId} {fn:Func} (an:An) (hf:Tryz.prog.funcs[f]?=some fn) (hr:ready fn 0=true:=by kernel_rfl) {S:World->(Ending->World->Prop)->Prop} (h:Y6 fn an S:=by ((refine ⟨by (intros; exact EB),?_⟩); (conv=>(lhs; dsimp only [↓pM,↓Ar,↓pL,↓mA,↓kR,↓mC,↓pJ,↓po,↓pu,↓tR,↓pI,↓tX,↓ue,↓o8])); (try exact Eq.refl _))):BU f:=
  ⟨S,fun hh=>by obtain ⟨s,e⟩:=h; subst e; exact pe an [] mixed hf hr rfl ((s _ _).2 hh)⟩
def cB (f:FuncId):Type:={S:Value->World->(Ending->World->Prop)->Prop // ∀ {p0 w R},S p0 w R->Calls Tryz.prog f #[p0] w R}
def Zi (fn:Func) (an:An) (S:Value->World->(Ending->World->Prop)->Prop):Prop:=∃ s:∀ p0 w R,shJ (vc Tryz.prog (oE fn) an (Mu Tryz.prog fn.results.toList R) (pR 0 [p0] fun _=>undef) w),(fun p0 w R=>(s p0 w R).1)=S
abbrev bd {f:FuncId} {fn:Func} (an:An) (hf:Tryz.prog.funcs[f]?=some fn) (hr:ready fn 1=true:=by kernel_rfl) {S:Value->World->(Ending->World->Prop)->Prop} (h:Zi fn an S:=by ((refine ⟨by (intros; exact EB),?_⟩); (conv=>(lhs; dsimp only [↓pM,↓Ar,↓pL,↓mA,↓kR,↓mC,↓pJ,↓po,↓pu,↓tR,↓pI,↓tX,↓ue,↓o8])); (try exact Eq.refl _))):cB f:=
  ⟨S,fun hh=>by obtain ⟨s,e⟩:=h; subst e; exact pe an [_] mixed hf hr rfl ((s _ _ _).2 hh)⟩
def dc (f:FuncId):Type:={S:Value->Value->World->(Ending->World->Prop)->Prop // ∀ {p0 p1 w R},S p0 p1 w R->Calls Tryz.prog f #[p0,p1] w R}
def YE (fn:Func) (an:An) (S:Value->Value->World->(Ending->World->Prop)->Prop):Prop:=∃ s:∀ p0 p1 w R,shJ (vc Tryz.prog (oE fn) an (Mu Tryz.prog fn.results.toList R) (pR 0 [p0,p1] fun _=>undef) w),(fun p0 p1 w R=>(s p0 p1 w R).1)=S
abbrev bv {f:FuncId} {fn:Func} (an:An) (hf:Tryz.prog.funcs[f]?=some fn) (hr:ready fn 2=true:=by kernel_rfl) {S:Value->Value->World->(Ending->World->Prop)->Prop} (h:YE fn an S:=by ((refine ⟨by (intros; exact EB),?_⟩); (conv=>(lhs; dsimp only [↓pM,↓Ar,↓pL,↓mA,↓kR,↓mC,↓pJ,↓po,↓pu,↓tR,↓pI,↓tX,↓ue,↓o8])); (try exact Eq.refl _))):dc f:=
  ⟨S,fun hh=>by obtain ⟨s,e⟩:=h; subst e; exact pe an [_,_] mixed hf hr rfl ((s _ _ _ _).2 hh)⟩
def jn (f:FuncId):Type:={S:Value->Value->Value->World->(Ending->World->Prop)->Prop // ∀ {p0 p1 p2 w R},S p0 p1 p2 w R->Calls Tryz.prog f #[p0,p1,p2] w R}
def YM (fn:Func) (an:An) (S:Value->Value->Value->World->(Ending->World->Prop)->Prop):Prop:=∃ s:∀ p0 p1 p2 w R,shJ (vc Tryz.prog (oE fn) an (Mu Tryz.prog fn.results.toList R) (pR 0 [p0,p1,p2] fun _=>undef) w),(fun p0 p1 p2 w R=>(s p0 p1 p2 w R).1)=S
abbrev eX {f:FuncId} {fn:Func} (an:An) (hf:Tryz.prog.funcs[f]?=some fn) (hr:ready fn 3=true:=by kernel_rfl) {S:Value->Value->Value->World->(Ending->World->Prop)->Prop} (h:YM fn an S:=by ((refine ⟨by (intros; exact EB),?_⟩); (conv=>(lhs; dsimp only [↓pM,↓Ar,↓pL,↓mA,↓kR,↓mC,↓pJ,↓po,↓pu,↓tR,↓pI,↓tX,↓ue,↓o8])); (try exact Eq.refl _))):jn f:=
  ⟨S,fun hh=>by obtain ⟨s,e⟩:=h; subst e; exact pe an [_,_,_] mixed hf hr rfl ((s _ _ _ _ _).2 hh)⟩
def H4 (f:FuncId):Type:={S:Value->Value->Value->Value->World->(Ending->World->Prop)->Prop // ∀ {p0 p1 p2 p3 w R},S p0 p1 p2 p3 w R->Calls Tryz.prog f #[p0,p1,p2,p3] w R}
def Y8 (fn:Func) (an:An) (S:Value->Value->Value->Value->World->(Ending->World->Prop)->Prop):Prop:=∃ s:∀ p0 p1 p2 p3 w R,shJ (vc Tryz.prog (oE fn) an (Mu Tryz.prog fn.results.toList R) (pR 0 [p0,p1,p2,p3] fun _=>undef) w),(fun p0 p1 p2 p3 w R=>(s p0 p1 p2 p3 w R).1)=S
abbrev vg {f:FuncId} {fn:Func} (an:An) (hf:Tryz.prog.funcs[f]?=some fn) (hr:ready fn 4=true:=by kernel_rfl) {S:Value->Value->Value->Value->World->(Ending->World->Prop)->Prop} (h:Y8 fn an S:=by ((refine ⟨by (intros; exact EB),?_⟩); (conv=>(lhs; dsimp only [↓pM,↓Ar,↓pL,↓mA,↓kR,↓mC,↓pJ,↓po,↓pu,↓tR,↓pI,↓tX,↓ue,↓o8])); (try exact Eq.refl _))):H4 f:=
  ⟨S,fun hh=>by obtain ⟨s,e⟩:=h; subst e; exact pe an [_,_,_,_] mixed hf hr rfl ((s _ _ _ _ _ _).2 hh)⟩
def Xb (f:FuncId):Type:={S:Value->Value->Value->Value->Value->World->(Ending->World->Prop)->Prop // ∀ {p0 p1 p2 p3 p4 w R},S p0 p1 p2 p3 p4 w R->Calls Tryz.prog f #[p0,p1,p2,p3,p4] w R}
def YP (fn:Func) (an:An) (S:Value->Value->Value->Value->Value->World->(Ending->World->Prop)->Prop):Prop:=∃ s:∀ p0 p1 p2 p3 p4 w R,shJ (vc Tryz.prog (oE fn) an (Mu Tryz.prog fn.results.toList R) (pR 0 [p0,p1,p2,p3,p4] fun _=>undef) w),(fun p0 p1 p2 p3 p4 w R=>(s p0 p1 p2 p3 p4 w R).1)=S
abbrev Xa {f:FuncId} {fn:Func} (an:An) (hf:Tryz.prog.funcs[f]?=some fn) (hr:ready fn 5=true:=by kernel_rfl) {S:Value->Value->Value->Value->Value->World->(Ending->World->Prop)->Prop} (h:YP fn an S:=by ((refine ⟨by (intros; exact EB),?_⟩); (conv=>(lhs; dsimp only [↓pM,↓Ar,↓pL,↓mA,↓kR,↓mC,↓pJ,↓po,↓pu,↓tR,↓pI,↓tX,↓ue,↓o8])); (try exact Eq.refl _))):Xb f:=
  ⟨S,fun hh=>by obtain ⟨s,e⟩:=h; subst e; exact pe an [_,_,_,_,_] mixed hf hr rfl ((s _ _ _ _ _ _ _).2 hh)⟩
end Go.Proofs.YtjbcdmheajljpaaGreat
