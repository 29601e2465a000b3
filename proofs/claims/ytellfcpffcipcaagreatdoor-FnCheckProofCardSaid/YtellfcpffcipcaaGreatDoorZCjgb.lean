/- Made by program: a tactic that computes a function's shallow form out of the program, with the proof that it implies Calls. -/
import Derived.Test.YtellfcpffcipcaaGreatDoorZCjS
import Derived.Test.YtellfcpffcipcaaGreatDoorProg
import Derived.KernelRfl
set_option maxRecDepth 100000
namespace Go.Proofs.YtellfcpffcipcaaGreatDoor
open Go
theorem mixed:Tryz.prog.follows .mixedOrders=true:=by kernel_rfl
structure Qe {α:Sort _} (a b:α):Type where
  e:a=b
def Qe.rfl {α:Sort _} {a:α}:Qe a a:=⟨Eq.refl a⟩
def Qe.w {α:Sort _} {a b c:α} (h:a=b) (e:Qe b c):Qe a c:=⟨h.trans e.e⟩
def Qe.ev {α:Sort _} {a b:α} (h:a=b):Qe a b:=⟨h⟩
def Qe.app {α β:Sort _} {f g:α->β} {a b:α} (e:Qe a b) (h:Qe f g):Qe (f a) (g b):=⟨by rw [e.e,h.e]⟩
def Qe.cgV {β:Sort _} {f g:Value->β} {a b:Value} (e:Qe a b) (h:Qe f g):Qe (f a) (g b):=e.app h
def Qe.cgW {β:Sort _} {f g:World->β} {a:World} (h:Qe f g):Qe (f a) (g a):=Qe.rfl.app h
def Qe.cgD {β:Sort _} {f g:(Nat->Bool)->β} {a b:Nat->Bool} (e:Qe a b) (h:Qe f g):Qe (f a) (g b):=e.app h
def Qe.set {i j:Nat} {a b:Nat->Bool} (e:Qe i j) (h:Qe a b):Qe (aC a i) (aC b j):=⟨by rw [e.e,h.e]⟩
def Qe.tr {α:Sort _} {a b c:α} (e:Qe a b) (h:c=b):Qe a c:=⟨by rw [e.e,h]⟩
def Qe.clo {ρ:Env} {x:Operand} {v:Value} (e:Qe (evE ρ x) v):Qe (cl ρ x) (.const v):=⟨by rw [cl,e.e]⟩
def Qe.omap {α β:Type} {f:α->β} {x:Option α} {y:Option β} (e:Qe (x.map f) y):Qe (x.map f) y:=e
def Qe.cons {α:Type} {a b:α} {l m:List α} (e:Qe a b) (h:Qe l m):Qe (a::l) (b::m):=⟨by rw [e.e,h.e]⟩
def Qe.tup {l m:List Value} (h:Qe l m):Qe (Value.tuple l.toArray) (Value.tuple m.toArray):=⟨by rw [h.e]⟩
def Qe.sop {o p:Op} {t u:TypeId} (e:Qe o p) (h:Qe t u):Qe (sOp o t) (sOp p u):=⟨by rw [e.e,h.e]⟩
def Qe.sbin {o:BinOp} {t:TypeId} {a b c d:Bool} {x y z w:Value} (e:Qe a b) (f:Qe c d) (g:Qe x y) (h:Qe z w):Qe (dH o t a c x z) (dH o t b d y w):=⟨by rw [e.e,f.e,g.e,h.e]⟩
def Qe.scall {v w:Value} {l m:List Value} (e:Qe v w) (h:Qe l m):Qe (gX v l) (gX w m):=⟨by rw [e.e,h.e]⟩
def Qe.sblt {b:Builtin} {s t:Array TypeId} {u v:TypeId} {k l:List Bool} {m n:List Value} (e:Qe s t) (f:Qe u v) (g:Qe k l) (h:Qe m n):Qe (ce b s u k m) (ce b t v l n):=⟨by rw [e.e,f.e,g.e,h.e]⟩
structure IsC (T N:Type) where
  f:N->T
def IsC.nil {α:Type}:IsC (Cur α []) α:=⟨fun y=>y⟩
def IsC.cons {α N:Type} {m:Nat} {l:List Nat} (c:IsC (Cur α l) N):IsC (Cur α (m::l)) (Value->N):=⟨fun y v=>c.f (y v)⟩
def IsC.fn {T N:Type} (c:IsC T N):IsC ((Nat->Bool)->T) ((Nat->Bool)->N):=⟨fun y v=>c.f (y v)⟩
def shJ (A:Prop):Type:={B:Prop // B->A}
def adE {A B:Prop} (h:A=B) (x:shJ B):shJ A:=⟨x.1,fun y=>h ▸ x.2 y⟩
def Yn {P:Program} {s s1:Sem Next} {w:World} {K:Value->World->Prop} (e:Qe s s1) (h:∀ v w',shJ (K v w')):shJ (Run P s w K):=
  ⟨Run P s1 w fun v w'=>(h v w').1,by obtain ⟨e⟩:=e; subst e; exact fun hh=>Run.mono hh fun v w'=>(h v w').2⟩
def V2 {v v1:Value} {A B:Prop} (e:Qe v v1) (h:shJ A) (h2:shJ B):shJ (CondV v A B):=
  ⟨CondV v1 h.1 h2.1,by obtain ⟨e⟩:=e; subst e; exact fun hh=>CondV.mono hh h.2 h2.2⟩
def Qo {v v1:Value} {b:Bool} {A B:Prop} (e:Qe v v1) (h:shJ A) (h2:shJ B):shJ (aF v b A B):=
  ⟨aF v1 b h.1 h2.1,by
    obtain ⟨e⟩:=e; subst e
    unfold aF; split
    · split
      · exact h.2
      · exact h2.2
    · exact h2.2⟩
def WN {P:Program} {T:TypeId} {v v1:Value} {w:World} {K:Value->Prop} (e:Qe v v1) (h:∀ u,shJ (K u)):shJ (aT P T v w K):=
  ⟨aT P T v1 w fun u=>(h u).1,by obtain ⟨e⟩:=e; subst e; exact fun ⟨u,h1,h2⟩=>⟨u,h1,(h u).2 h2⟩⟩
def YZ {A B:Prop} (h:shJ A) (h2:shJ B):shJ (A/\B):=⟨h.1/\h2.1,fun ⟨x,y⟩=>⟨h.2 x,h2.2 y⟩⟩
def YX {A A1 B:Prop} (e:Qe A A1) (h:shJ B):shJ (A->B):=⟨A1->h.1,by obtain ⟨e⟩:=e; subst e; exact fun x y=>h.2 (x y)⟩
def ZC {α:Sort _} {A:α->Prop} (h:∀ x,shJ (A x)):shJ (∀ x,A x):=⟨∀ x,(h x).1,fun x y=>(h y).2 (x y)⟩
def abR {T N:Type} {p:T->Prop} (c:IsC T N) (h:∀ y,shJ (p (c.f y))):shJ (∃ x,p x):=⟨∃ y,(h y).1,fun ⟨y,hy⟩=>⟨c.f y,(h y).2 hy⟩⟩
def YB {R:Ending->World->Prop} {w:World} {e e1:Ending} (h:Qe e e1):shJ (R e w):=⟨R e1 w,by obtain ⟨h⟩:=h; subst h; exact id⟩
def abL {a b a1 b1:Nat} (e:Qe a a1) (h:Qe b b1):shJ (a<b):=⟨a1<b1,by obtain ⟨e⟩:=e; obtain ⟨h⟩:=h; subst e h; exact id⟩
def abN {A B:Prop} (e:Qe A B):shJ A:=⟨B,by obtain ⟨e⟩:=e; subst e; exact id⟩
def Zz {A:Prop}:shJ A:=⟨A,id⟩
theorem Ep {A B:Prop} {h:A=B} {x:shJ B}:(adE h x).1=x.1:=rfl
theorem rV {P:Program} {s s1:Sem Next} {w:World} {K:Value->World->Prop} {e:Qe s s1} {h:∀ v w',shJ (K v w')}:(Yn (P:=P) (w:=w) e h).1=Run P s1 w fun v w'=>(h v w').1:=rfl
theorem oz {v v1:Value} {A B:Prop} {e:Qe v v1} {h:shJ A} {h2:shJ B}:(V2 e h h2).1=CondV v1 h.1 h2.1:=rfl
theorem lV {v v1:Value} {b:Bool} {A B:Prop} {e:Qe v v1} {h:shJ A} {h2:shJ B}:(Qo (b:=b) e h h2).1=aF v1 b h.1 h2.1:=rfl
theorem ov {P:Program} {T:TypeId} {v v1:Value} {w:World} {K:Value->Prop} {e:Qe v v1} {h:∀ u,shJ (K u)}:(WN (P:=P) (T:=T) (w:=w) e h).1=aT P T v1 w fun u=>(h u).1:=rfl
theorem si {A B:Prop} {h:shJ A} {h2:shJ B}:(YZ h h2).1=(h.1/\h2.1):=rfl
theorem r3 {A A1 B:Prop} {e:Qe A A1} {h:shJ B}:(YX e h).1=(A1->h.1):=rfl
theorem ro {α:Sort _} {A:α->Prop} {h:∀ x,shJ (A x)}:(ZC h).1=∀ x,(h x).1:=rfl
theorem xm {T N:Type} {p:T->Prop} {c:IsC T N} {h:∀ y,shJ (p (c.f y))}:(abR c h).1=∃ y,(h y).1:=rfl
theorem ru {R:Ending->World->Prop} {w:World} {e e1:Ending} {h:Qe e e1}:(YB (R:=R) (w:=w) h).1=R e1 w:=rfl
theorem wY {a b a1 b1:Nat} {e:Qe a a1} {h:Qe b b1}:(abL e h).1=(a1<b1):=rfl
theorem xh {A B:Prop} {e:Qe A B}:(abN e).1=B:=rfl
theorem rP {A:Prop}:(Zz (A:=A)).1=A:=rfl
attribute [local irreducible] Run CondV aF aT sOp dH bZ bY fT gX ce Tryz.prog aC undef
def Ia {A:Prop} (x:shJ A:=by (intros; repeat' (first|((with_reducible apply abL) <;> ((with_reducible apply Qe.w); (next=>(conv=>(lhs; whnf))); apply Qe.tr; (next=>(first|((with_reducible apply Qe.cgW); (repeat ((with_reducible apply Qe.cgV); (next=>((with_reducible apply Qe.ev); (conv=>(lhs; whnf)))))); (first|((with_reducible apply Qe.cgD); (repeat ((with_reducible apply Qe.set); (next=>((with_reducible apply Qe.ev); (first|(conv=>(lhs; cbv))|exact Eq.refl _))))); exact Qe.rfl; exact Qe.rfl)|exact Qe.rfl))|((with_reducible apply Qe.ev); (first|(conv=>(lhs; cbv))|exact Eq.refl _)))); rfl))|((with_reducible apply adE); (next=>(conv=>(lhs; whnf))); (first|((with_reducible apply Yn); (next=>((with_reducible apply Qe.w); (next=>(conv=>(lhs; whnf))); (first|((with_reducible apply Qe.sop); (next=>((with_reducible apply Qe.w); (next=>(conv=>(lhs; whnf))); (repeat ((with_reducible apply Qe.app); (next=>(first|((with_reducible apply Qe.clo); (next=>((with_reducible apply Qe.ev); (conv=>(lhs; whnf)))))|((with_reducible apply Qe.omap); (next=>((with_reducible apply Qe.ev); (first|(conv=>(lhs; cbv))|exact Eq.refl _))))|exact Qe.rfl)))); exact Qe.rfl)); (next=>((with_reducible apply Qe.ev); (with_reducible (conv=>(lhs; whnf))))))|((with_reducible apply Qe.sbin); (next=>((with_reducible apply Qe.ev); (conv=>(lhs; whnf)))); (next=>((with_reducible apply Qe.ev); (conv=>(lhs; whnf)))); (next=>((with_reducible apply Qe.ev); (conv=>(lhs; whnf)))); (next=>((with_reducible apply Qe.ev); (conv=>(lhs; whnf)))))|((with_reducible apply Qe.scall); (next=>((with_reducible apply Qe.ev); (conv=>(lhs; whnf)))); (next=>((repeat ((with_reducible apply Qe.w); (next=>(conv=>(lhs; whnf))); (with_reducible apply Qe.cons); (next=>((with_reducible apply Qe.ev); (conv=>(lhs; whnf)))))); (with_reducible apply Qe.ev); (conv=>(lhs; whnf)))))|((with_reducible apply Qe.sblt); (next=>((with_reducible apply Qe.ev); (with_reducible (conv=>(lhs; whnf))))); (next=>((with_reducible apply Qe.ev); (with_reducible (conv=>(lhs; whnf))))); (next=>((repeat ((with_reducible apply Qe.w); (next=>(conv=>(lhs; whnf))); (with_reducible apply Qe.cons); (next=>((with_reducible apply Qe.ev); (conv=>(lhs; whnf)))))); (with_reducible apply Qe.ev); (conv=>(lhs; whnf)))); (next=>((repeat ((with_reducible apply Qe.w); (next=>(conv=>(lhs; whnf))); (with_reducible apply Qe.cons); (next=>((with_reducible apply Qe.ev); (conv=>(lhs; whnf)))))); (with_reducible apply Qe.ev); (conv=>(lhs; whnf)))))|(repeat ((with_reducible apply Qe.app); (next=>((with_reducible apply Qe.ev); (first|(conv=>(lhs; cbv))|exact Eq.refl _))))); exact Qe.rfl))); intro _ _)|((with_reducible apply V2); (next=>((with_reducible apply Qe.ev); (conv=>(lhs; whnf)))))|((with_reducible apply Qo); (next=>((with_reducible apply Qe.ev); (conv=>(lhs; whnf)))))|((with_reducible apply WN); (next=>((with_reducible apply Qe.ev); (conv=>(lhs; whnf)))); intro _)|((with_reducible apply YB); (next=>((with_reducible apply Qe.app); (next=>((with_reducible apply Qe.w); (next=>(conv=>(lhs; whnf))); (first|((with_reducible apply Qe.tup); (next=>((repeat ((with_reducible apply Qe.w); (next=>(conv=>(lhs; whnf))); (with_reducible apply Qe.cons); (next=>((with_reducible apply Qe.ev); (conv=>(lhs; whnf)))))); (with_reducible apply Qe.ev); (conv=>(lhs; whnf)))))|exact Qe.rfl))); exact Qe.rfl)))|(with_reducible apply YZ)|(apply abR; (case c=>((refine id ?_); (try apply IsC.fn); (repeat apply IsC.cons); exact IsC.nil)); intro _)|((with_reducible apply YX); (next=>((with_reducible apply Qe.w); (next=>(conv=>(lhs; whnf))); apply Qe.tr; (next=>(first|((with_reducible apply Qe.cgW); (repeat ((with_reducible apply Qe.cgV); (next=>((with_reducible apply Qe.ev); (conv=>(lhs; whnf)))))); (first|((with_reducible apply Qe.cgD); (repeat ((with_reducible apply Qe.set); (next=>((with_reducible apply Qe.ev); (first|(conv=>(lhs; cbv))|exact Eq.refl _))))); exact Qe.rfl; exact Qe.rfl)|exact Qe.rfl))|((with_reducible apply Qe.ev); (first|(conv=>(lhs; cbv))|exact Eq.refl _)))); rfl)))|((with_reducible apply ZC); intro _)|((with_reducible apply abN); ((with_reducible apply Qe.w); (next=>(conv=>(lhs; whnf))); apply Qe.tr; (next=>(first|((with_reducible apply Qe.cgW); (repeat ((with_reducible apply Qe.cgV); (next=>((with_reducible apply Qe.ev); (conv=>(lhs; whnf)))))); (first|((with_reducible apply Qe.cgD); (repeat ((with_reducible apply Qe.set); (next=>((with_reducible apply Qe.ev); (first|(conv=>(lhs; cbv))|exact Eq.refl _))))); exact Qe.rfl; exact Qe.rfl)|exact Qe.rfl))|((with_reducible apply Qe.ev); (first|(conv=>(lhs; cbv))|exact Eq.refl _)))); rfl))|exact Zz))))):shJ A:=x
theorem rt {A:Prop} {x:shJ A}:(Ia x).1=x.1:=rfl
def Jx (f:FuncId):Type:={S:World->(Ending->World->Prop)->Prop // ∀ {w R},S w R->Calls Tryz.prog f #[] w R}
def acU (fn:Func) (an:An) (S:World->(Ending->World->Prop)->Prop):Prop:=∃ s:∀ w R,shJ (vc Tryz.prog (qM fn) an (RN Tryz.prog fn.results.toList R) (rq 0 [] fun _=>undef) w),(fun w R=>(s w R).1)=S
abbrev ub {f:FuncId} {fn:Func} (an:An) (hf:Tryz.prog.funcs[f]?=some fn) (hr:ready fn 0=true:=by kernel_rfl) {S:World->(Ending->World->Prop)->Prop} (h:acU fn an S:=by ((refine ⟨by (intros; exact Ia),?_⟩); (conv=>(lhs; dsimp only [↓rt,↓Ep,↓rV,↓oz,↓lV,↓ov,↓si,↓r3,↓ro,↓xm,↓ru,↓wY,↓xh,↓rP])); (try exact Eq.refl _))):Jx f:=
  ⟨S,fun hh=>by obtain ⟨s,e⟩:=h; subst e; exact rU an [] mixed hf hr rfl ((s _ _).2 hh)⟩
def bX (f:FuncId):Type:={S:Value->World->(Ending->World->Prop)->Prop // ∀ {p0 w R},S p0 w R->Calls Tryz.prog f #[p0] w R}
def ads (fn:Func) (an:An) (S:Value->World->(Ending->World->Prop)->Prop):Prop:=∃ s:∀ p0 w R,shJ (vc Tryz.prog (qM fn) an (RN Tryz.prog fn.results.toList R) (rq 0 [p0] fun _=>undef) w),(fun p0 w R=>(s p0 w R).1)=S
abbrev aR {f:FuncId} {fn:Func} (an:An) (hf:Tryz.prog.funcs[f]?=some fn) (hr:ready fn 1=true:=by kernel_rfl) {S:Value->World->(Ending->World->Prop)->Prop} (h:ads fn an S:=by ((refine ⟨by (intros; exact Ia),?_⟩); (conv=>(lhs; dsimp only [↓rt,↓Ep,↓rV,↓oz,↓lV,↓ov,↓si,↓r3,↓ro,↓xm,↓ru,↓wY,↓xh,↓rP])); (try exact Eq.refl _))):bX f:=
  ⟨S,fun hh=>by obtain ⟨s,e⟩:=h; subst e; exact rU an [_] mixed hf hr rfl ((s _ _ _).2 hh)⟩
def cQ (f:FuncId):Type:={S:Value->Value->World->(Ending->World->Prop)->Prop // ∀ {p0 p1 w R},S p0 p1 w R->Calls Tryz.prog f #[p0,p1] w R}
def adB (fn:Func) (an:An) (S:Value->Value->World->(Ending->World->Prop)->Prop):Prop:=∃ s:∀ p0 p1 w R,shJ (vc Tryz.prog (qM fn) an (RN Tryz.prog fn.results.toList R) (rq 0 [p0,p1] fun _=>undef) w),(fun p0 p1 w R=>(s p0 p1 w R).1)=S
abbrev bl {f:FuncId} {fn:Func} (an:An) (hf:Tryz.prog.funcs[f]?=some fn) (hr:ready fn 2=true:=by kernel_rfl) {S:Value->Value->World->(Ending->World->Prop)->Prop} (h:adB fn an S:=by ((refine ⟨by (intros; exact Ia),?_⟩); (conv=>(lhs; dsimp only [↓rt,↓Ep,↓rV,↓oz,↓lV,↓ov,↓si,↓r3,↓ro,↓xm,↓ru,↓wY,↓xh,↓rP])); (try exact Eq.refl _))):cQ f:=
  ⟨S,fun hh=>by obtain ⟨s,e⟩:=h; subst e; exact rU an [_,_] mixed hf hr rfl ((s _ _ _ _).2 hh)⟩
def iR (f:FuncId):Type:={S:Value->Value->Value->World->(Ending->World->Prop)->Prop // ∀ {p0 p1 p2 w R},S p0 p1 p2 w R->Calls Tryz.prog f #[p0,p1,p2] w R}
def ac6 (fn:Func) (an:An) (S:Value->Value->Value->World->(Ending->World->Prop)->Prop):Prop:=∃ s:∀ p0 p1 p2 w R,shJ (vc Tryz.prog (qM fn) an (RN Tryz.prog fn.results.toList R) (rq 0 [p0,p1,p2] fun _=>undef) w),(fun p0 p1 p2 w R=>(s p0 p1 p2 w R).1)=S
abbrev dR {f:FuncId} {fn:Func} (an:An) (hf:Tryz.prog.funcs[f]?=some fn) (hr:ready fn 3=true:=by kernel_rfl) {S:Value->Value->Value->World->(Ending->World->Prop)->Prop} (h:ac6 fn an S:=by ((refine ⟨by (intros; exact Ia),?_⟩); (conv=>(lhs; dsimp only [↓rt,↓Ep,↓rV,↓oz,↓lV,↓ov,↓si,↓r3,↓ro,↓xm,↓ru,↓wY,↓xh,↓rP])); (try exact Eq.refl _))):iR f:=
  ⟨S,fun hh=>by obtain ⟨s,e⟩:=h; subst e; exact rU an [_,_,_] mixed hf hr rfl ((s _ _ _ _ _).2 hh)⟩
def yC (f:FuncId):Type:={S:Value->Value->Value->Value->World->(Ending->World->Prop)->Prop // ∀ {p0 p1 p2 p3 w R},S p0 p1 p2 p3 w R->Calls Tryz.prog f #[p0,p1,p2,p3] w R}
def ac8 (fn:Func) (an:An) (S:Value->Value->Value->Value->World->(Ending->World->Prop)->Prop):Prop:=∃ s:∀ p0 p1 p2 p3 w R,shJ (vc Tryz.prog (qM fn) an (RN Tryz.prog fn.results.toList R) (rq 0 [p0,p1,p2,p3] fun _=>undef) w),(fun p0 p1 p2 p3 w R=>(s p0 p1 p2 p3 w R).1)=S
abbrev lQ {f:FuncId} {fn:Func} (an:An) (hf:Tryz.prog.funcs[f]?=some fn) (hr:ready fn 4=true:=by kernel_rfl) {S:Value->Value->Value->Value->World->(Ending->World->Prop)->Prop} (h:ac8 fn an S:=by ((refine ⟨by (intros; exact Ia),?_⟩); (conv=>(lhs; dsimp only [↓rt,↓Ep,↓rV,↓oz,↓lV,↓ov,↓si,↓r3,↓ro,↓xm,↓ru,↓wY,↓xh,↓rP])); (try exact Eq.refl _))):yC f:=
  ⟨S,fun hh=>by obtain ⟨s,e⟩:=h; subst e; exact rU an [_,_,_,_] mixed hf hr rfl ((s _ _ _ _ _ _).2 hh)⟩
def WU (f:FuncId):Type:={S:Value->Value->Value->Value->Value->World->(Ending->World->Prop)->Prop // ∀ {p0 p1 p2 p3 p4 w R},S p0 p1 p2 p3 p4 w R->Calls Tryz.prog f #[p0,p1,p2,p3,p4] w R}
def ad7 (fn:Func) (an:An) (S:Value->Value->Value->Value->Value->World->(Ending->World->Prop)->Prop):Prop:=∃ s:∀ p0 p1 p2 p3 p4 w R,shJ (vc Tryz.prog (qM fn) an (RN Tryz.prog fn.results.toList R) (rq 0 [p0,p1,p2,p3,p4] fun _=>undef) w),(fun p0 p1 p2 p3 p4 w R=>(s p0 p1 p2 p3 p4 w R).1)=S
abbrev LY {f:FuncId} {fn:Func} (an:An) (hf:Tryz.prog.funcs[f]?=some fn) (hr:ready fn 5=true:=by kernel_rfl) {S:Value->Value->Value->Value->Value->World->(Ending->World->Prop)->Prop} (h:ad7 fn an S:=by ((refine ⟨by (intros; exact Ia),?_⟩); (conv=>(lhs; dsimp only [↓rt,↓Ep,↓rV,↓oz,↓lV,↓ov,↓si,↓r3,↓ro,↓xm,↓ru,↓wY,↓xh,↓rP])); (try exact Eq.refl _))):WU f:=
  ⟨S,fun hh=>by obtain ⟨s,e⟩:=h; subst e; exact rU an [_,_,_,_,_] mixed hf hr rfl ((s _ _ _ _ _ _ _).2 hh)⟩
end Go.Proofs.YtellfcpffcipcaaGreatDoor
