/- Made by program: the functions in a shallow form; each form gives Calls. -/
import Derived.Test.YtfcbhfjomgopbaaGreatZT1S
import Derived.Test.YtfcbhfjomgopbaaGreatProg
import Derived.KernelRfl
set_option maxRecDepth 100000
namespace Go.Proofs.YtfcbhfjomgopbaaGreat
open Go
theorem bo:Tryz.prog.follows .mixedOrders=true:=by kernel_rfl
abbrev RR:=Run Tryz.prog
abbrev VW:=Value->World->Prop
abbrev NB:=Nat->Bool
abbrev fF:NB:=fun _=>false
abbrev nn (n:Int):Value:=.int .i64 n
abbrev CC:=Calls Tryz.prog
abbrev Ld (t:TypeId) (v:Value):=RR (sOp (.load t (.const v)) t)
abbrev Pk (a b c:Value):=RR (sOp (.pick (.const a) (.const b) (.const c)) 4)
abbrev Fd (t:TypeId) (v:Value) (i:Nat):=RR (sOp (.fieldAddr t (.const v) i) 0)
abbrev Ia (t:TypeId) (v i:Value):=RR (sOp (.indexAddr t (.const v) (.const i)) 0)
abbrev St (t:TypeId) (v i:Value):=RR (sOp (.store t (.const v) (.const i)) 0)
abbrev Al (t:TypeId):=RR (sOp (.alloc t) 0)
abbrev Bx (t:TypeId) (v:Value):=RR (sOp (.box t (.const v)) 0)
abbrev Ex (v:Value) (i:Nat) (t:TypeId):=RR (sOp (.extract (.const v) i) t)
abbrev Nt (v:Value):=RR (sOp (.unOp .not 4 (.const v)) 4)
abbrev Ix (t:TypeId) (v i:Value) (u:TypeId):=RR (sOp (.index t (.const v) (.const i)) u)
abbrev Ca (n:Nat) (l:List Value):=RR (fN (.func (.func n) #[] #[]) l)
abbrev Ba (o:BinOp) (t:TypeId) (a b:Value):=RR (cS o t false false a b)
abbrev Bb (o:BinOp) (t:TypeId) (a b:Value):=RR (cS o t false true a b)
abbrev Bc (o:BinOp) (t:TypeId) (a b:Value):=RR (cS o t true false a b)
abbrev Bd (o:BinOp) (t:TypeId) (a b:Value):=RR (cS o t true true a b)
abbrev Ln (t:TypeId) (a:Value):=RR (bx .len #[t] 3 [false] [a])
abbrev QP1:=Value->World->Prop
abbrev QN1:=Value->World->Nat
abbrev QP2:=Value->Value->World->Prop
abbrev QN2:=Value->Value->World->Nat
abbrev QP3:=Value->Value->Value->World->Prop
abbrev QN3:=Value->Value->Value->World->Nat
abbrev QP4:=Value->Value->Value->Value->World->Prop
abbrev QN4:=Value->Value->Value->Value->World->Nat
abbrev QP5:=Value->Value->Value->Value->Value->World->Prop
abbrev QN5:=Value->Value->Value->Value->Value->World->Nat
abbrev QP6:=Value->Value->Value->Value->Value->Value->World->Prop
abbrev QN6:=Value->Value->Value->Value->Value->Value->World->Nat
abbrev QP7:=Value->Value->Value->Value->Value->Value->Value->World->Prop
abbrev QN7:=Value->Value->Value->Value->Value->Value->Value->World->Nat
abbrev QP8:=Value->Value->Value->Value->Value->Value->Value->Value->World->Prop
abbrev QN8:=Value->Value->Value->Value->Value->Value->Value->Value->World->Nat
abbrev QP9:=Value->Value->Value->Value->Value->Value->Value->Value->Value->World->Prop
abbrev QN9:=Value->Value->Value->Value->Value->Value->Value->Value->Value->World->Nat
abbrev Nc:=Value->Value->Value->Value->Value->Value->Value->Value->Value->Value->World->Prop
abbrev O2:=Value->Value->Value->Value->Value->Value->Value->Value->Value->Value->World->Nat
abbrev LK:=Value->Value->Value->Value->Value->Value->Value->Value->Value->Value->Value->World->Prop
abbrev OR:=Value->Value->Value->Value->Value->Value->Value->Value->Value->Value->Value->World->Nat
abbrev JK:=Value->Value->Value->Value->Value->Value->Value->Value->Value->Value->Value->Value->World->Prop
abbrev O0:=Value->Value->Value->Value->Value->Value->Value->Value->Value->Value->Value->Value->World->Nat
abbrev N4:=Value->Value->Value->Value->Value->Value->Value->Value->Value->Value->Value->Value->Value->World->Prop
abbrev OQ:=Value->Value->Value->Value->Value->Value->Value->Value->Value->Value->Value->Value->Value->World->Nat
abbrev Ot:=Value->Value->Value->Value->Value->Value->Value->Value->Value->Value->Value->Value->Value->Value->World->Prop
abbrev O3:=Value->Value->Value->Value->Value->Value->Value->Value->Value->Value->Value->Value->Value->Value->World->Nat
abbrev Oz:=Value->Value->Value->Value->Value->Value->Value->Value->Value->Value->Value->Value->Value->Value->Value->World->Prop
abbrev OZ:=Value->Value->Value->Value->Value->Value->Value->Value->Value->Value->Value->Value->Value->Value->Value->World->Nat
abbrev OD:=Value->Value->Value->Value->Value->Value->Value->Value->Value->Value->Value->Value->Value->Value->Value->Value->Value->World->Prop
abbrev OU:=Value->Value->Value->Value->Value->Value->Value->Value->Value->Value->Value->Value->Value->Value->Value->Value->Value->World->Nat
abbrev OM:=Value->Value->Value->Value->Value->Value->Value->Value->Value->Value->Value->Value->Value->Value->Value->Value->Value->Value->Value->World->Prop
abbrev OY:=Value->Value->Value->Value->Value->Value->Value->Value->Value->Value->Value->Value->Value->Value->Value->Value->Value->Value->Value->World->Nat
abbrev On:=Value->Value->Value->Value->Value->Value->Value->Value->Value->Value->Value->Value->Value->Value->Value->Value->Value->Value->Value->Value->World->Prop
abbrev OV:=Value->Value->Value->Value->Value->Value->Value->Value->Value->Value->Value->Value->Value->Value->Value->Value->Value->Value->Value->Value->World->Nat
abbrev OB:=Value->Value->Value->Value->Value->Value->Value->Value->Value->Value->Value->Value->Value->Value->Value->Value->Value->Value->Value->Value->Value->World->Prop
abbrev OS:=Value->Value->Value->Value->Value->Value->Value->Value->Value->Value->Value->Value->Value->Value->Value->Value->Value->Value->Value->Value->Value->World->Nat
abbrev OL:=Value->Value->Value->Value->Value->Value->Value->Value->Value->Value->Value->Value->Value->Value->Value->Value->Value->Value->Value->Value->Value->Value->World->Prop
abbrev OP:=Value->Value->Value->Value->Value->Value->Value->Value->Value->Value->Value->Value->Value->Value->Value->Value->Value->Value->Value->Value->Value->Value->World->Nat
abbrev OC:=Value->Value->Value->Value->Value->Value->Value->Value->Value->Value->Value->Value->Value->Value->Value->Value->Value->Value->Value->Value->Value->Value->Value->Value->Value->World->Prop
abbrev O1:=Value->Value->Value->Value->Value->Value->Value->Value->Value->Value->Value->Value->Value->Value->Value->Value->Value->Value->Value->Value->Value->Value->Value->Value->Value->World->Nat
abbrev Oy:=Value->Value->Value->Value->Value->Value->Value->Value->Value->Value->Value->Value->Value->Value->Value->Value->Value->Value->Value->Value->Value->Value->Value->Value->Value->Value->Value->Value->Value->Value->Value->Value->Value->Value->Value->Value->Value->Value->Value->Value->Value->Value->Value->Value->Value->Value->World->Prop
abbrev OX:=Value->Value->Value->Value->Value->Value->Value->Value->Value->Value->Value->Value->Value->Value->Value->Value->Value->Value->Value->Value->Value->Value->Value->Value->Value->Value->Value->Value->Value->Value->Value->Value->Value->Value->Value->Value->Value->Value->Value->Value->Value->Value->Value->Value->Value->Value->World->Nat
abbrev V0:=World->(Ending->World->Prop)->Prop
abbrev V1:=Value->World->(Ending->World->Prop)->Prop
abbrev V2:=Value->Value->World->(Ending->World->Prop)->Prop
abbrev V3:=Value->Value->Value->World->(Ending->World->Prop)->Prop
abbrev V4:=Value->Value->Value->Value->World->(Ending->World->Prop)->Prop
abbrev V5:=Value->Value->Value->Value->Value->World->(Ending->World->Prop)->Prop
variable {p0 p1 p2 p3 p4:Value} {w:World} {R:Ending->World->Prop}
def jW:V1:=fun p0 w R=>
 Ln 44 p0 w fun a b=>
 Bb .gtr 3 a (nn 1048576) b fun a b=>
 CondV a (
 R (.returned (.bool true)) b) (
 Ca 17 [p0] b fun a b=>
 Al 39 b fun b c=>
 St 39 b a c fun _ a=>
 Ld 39 b a fun a c=>
 Ca 18 [a] c fun a c=>
 (∃ d:QP1,(
 Ld 39 b c fun c e=>
 Ca 19 [c] e fun c e=>
 Ba .neq 3 a c e fun a c=>
 ag a false (
 Ld 39 b c fun b c=>
 Ca 20 [b] c fun b c=>
 Nt b c fun b c=>
 Pk a (.bool true) b c fun a b=>
 d a b) (
 Pk a (.bool true) undef c fun a b=>
 d a b))/\
 ∀ c _ _ _ _ _ _ _ _:Value,∀ e:World,d c e->
 CondV c (
 Ld 39 b e fun b c=>
 Ca 19 [b] c fun b c=>
 Ba .eql 3 a b c fun a b=>
 R (.returned a) b) (
 (∃ (c:QP2) (d:QN2),c (nn 0) (nn 1) e/\
 ∀ e _ _ f _ _ _ _ _ _ _ _ _ _ _ _ _:Value,∀ g:World,c e f g->
 Fd 39 b 2 g fun h i=>
 Ld 37 h i fun h i=>
 Ln 37 h i fun h i=>
 Ba .lss 3 e h i fun h i=>
 CondV h (
 Fd 39 b 2 i fun a b=>
 Ld 37 a b fun a b=>
 Ia 37 a e b fun a b=>
 Ld 39 a b fun a b=>
 Ca 18 [a] b fun a b=>
 Ba .add 3 f a b fun a b=>
 Bb .add 3 e (nn 1) b fun b h=>
 c b a h/\d b a h<d e f g) (
 Ba .eql 3 a f i fun b c=>
 ag b true (
 Bb .leq 3 a (nn 60) c fun a c=>
 Pk b a (.bool false) c fun a b=>
 R (.returned a) b) (
 Pk b undef (.bool false) c fun a b=>
 R (.returned a) b))))))
theorem nP (h:jW p0 w R):CC 4 #[p0] w R:=
  aw (.seq none .leaf (.seq none .leaf (.seq none .leaf (.seq none .leaf (.seq none (.seq (some [22]) .leaf .leaf) (.seq none .leaf (.seq none (.seq none .leaf (.one (.loop [6,5] .leaf))) .leaf))))))) [p0] bo Tryz.func4 (by kernel_rfl) (by kernel_rfl) h

def l8:V1:=fun p0 w R=>
 Ln 22 p0 w fun a b=>
 RR (sOp (.makeSlice 32 (.const a) (.const a)) 32) b fun a b=>
 (∃ (c:QP1) (d:QN1),c (nn 0) b/\
 ∀ b _ _ _ _ _ _ _ _ _ _ _ _ _ _:Value,∀ e:World,c b e->
 Ln 22 p0 e fun f g=>
 Ba .lss 3 b f g fun f g=>
 CondV f (
 Ia 22 p0 b g fun f g=>
 Ld 60 f g fun f g=>
 Ca 33 [f] g fun f g=>
 Ia 32 a b g fun a g=>
 St 56 a f g fun _ a=>
 Bb .add 3 b (nn 1) a fun a f=>
 c a f/\d a f<d b e) (
 R (.returned a) g))
theorem ry (h:l8 p0 w R):CC 12 #[p0] w R:=
  aw (.seq none .leaf (.seq none .leaf (.seq none (.seq none .leaf (.one (.loop [4] .leaf))) .leaf))) [p0] bo Tryz.func12 (by kernel_rfl) (by kernel_rfl) h

def iQ:V1:=fun p0 w R=>
 Al 39 w fun a b=>
 Ca 40 [p0] b fun b c=>
 St 39 a b c fun _ b=>
 (aO Tryz.prog 39 a b fun a=>R (.returned a) b)
theorem lJ (h:iQ p0 w R):CC 17 #[p0] w R:=
  aw .leaf [p0] bo Tryz.func17 (by kernel_rfl) (by kernel_rfl) h

def nw:V1:=fun p0 w R=>
 Bx 39 p0 w fun a b=>
 Al 3 b fun b c=>
 St 3 b (nn 0) c fun _ c=>
 Ld 39 a c fun a c=>
 Ca 41 [a,(nn 1),b] c fun a c=>
 Nt a c fun a c=>
 CondV a (
 R (.returned (nn 0)) c) (
 Ld 3 b c fun a b=>
 R (.returned a) b)
theorem sa (h:nw p0 w R):CC 18 #[p0] w R:=
  aw .leaf [p0] bo Tryz.func18 (by kernel_rfl) (by kernel_rfl) h

def mB:V1:=fun p0 w R=>
 Bx 39 p0 w fun a b=>
 Ld 39 a b fun b c=>
 Ca 31 [b] c fun b c=>
 Nt b c fun b c=>
 CondV b (
 R (.returned (nn 0)) c) (
 Ld 39 a c fun a b=>
 Ca 42 [a,(nn 60)] b fun a b=>
 R (.returned a) b)
theorem qC (h:mB p0 w R):CC 19 #[p0] w R:=
  aw .leaf [p0] bo Tryz.func19 (by kernel_rfl) (by kernel_rfl) h

def lz:V1:=fun p0 w R=>
 Bx 39 p0 w fun a b=>
 Al 3 b fun b c=>
 St 3 b (nn 0) c fun _ c=>
 Ld 39 a c fun a c=>
 Ca 41 [a,(nn 1),b] c fun a b=>
 R (.returned a) b
theorem pH (h:lz p0 w R):CC 20 #[p0] w R:=
  aw .leaf [p0] bo Tryz.func20 (by kernel_rfl) (by kernel_rfl) h

def lA:V1:=fun p0 w R=>
 Bx 39 p0 w fun a b=>
 Ld 39 a b fun b c=>
 Ca 55 [b,(nn 20)] c fun b c=>
 ag b true (
 Ld 39 a c fun a c=>
 Ca 42 [a,(nn 60)] c fun a c=>
 Bb .leq 3 a (nn 60) c fun a c=>
 Pk b a (.bool false) c fun a b=>
 R (.returned a) b) (
 Pk b undef (.bool false) c fun a b=>
 R (.returned a) b)
theorem pz (h:lA p0 w R):CC 31 #[p0] w R:=
  aw .leaf [p0] bo Tryz.func31 (by kernel_rfl) (by kernel_rfl) h

def ol:V1:=fun p0 w R=>
 Bx 60 p0 w fun a b=>
 Al 56 b fun b c=>
 Al 56 c fun c d=>
 Fd 60 a 0 d fun d e=>
 Ld 25 d e fun d e=>
 Ca 34 [d] e fun d e=>
 Fd 56 c 0 e fun e f=>
 St 36 e d f fun _ d=>
 Fd 60 a 1 d fun a d=>
 Ld 23 a d fun a d=>
 Ca 57 [a] d fun a d=>
 Fd 56 c 1 d fun d e=>
 St 34 d a e fun _ a=>
 Ld 56 c a fun a c=>
 St 56 b a c fun _ a=>
 (aO Tryz.prog 56 b a fun b=>R (.returned b) a)
theorem tn (h:ol p0 w R):CC 33 #[p0] w R:=
  aw .leaf [p0] bo Tryz.func33 (by kernel_rfl) (by kernel_rfl) h

def uV:V1:=fun p0 w R=>
 Bx 25 p0 w fun a b=>
 Al 36 b fun b c=>
 Al 36 c fun c d=>
 Fd 25 a 0 d fun d e=>
 Ld 3 d e fun d e=>
 Fd 36 c 0 e fun e f=>
 St 3 e d f fun _ d=>
 Fd 25 a 1 d fun d e=>
 Ld 3 d e fun d e=>
 Fd 36 c 1 e fun e f=>
 St 3 e d f fun _ d=>
 Fd 25 a 2 d fun d e=>
 Ld 9 d e fun d e=>
 Fd 36 c 2 e fun e f=>
 St 9 e d f fun _ d=>
 Fd 25 a 3 d fun a d=>
 Ld 23 a d fun a d=>
 Ca 57 [a] d fun a d=>
 Fd 36 c 3 d fun d e=>
 St 34 d a e fun _ a=>
 Ld 36 c a fun a c=>
 St 36 b a c fun _ a=>
 (aO Tryz.prog 36 b a fun b=>R (.returned b) a)
theorem xH (h:uV p0 w R):CC 34 #[p0] w R:=
  aw .leaf [p0] bo Tryz.func34 (by kernel_rfl) (by kernel_rfl) h

def im:V1:=fun p0 w R=>
 Al 39 w fun a b=>
 Ca 45 [p0] b fun b c=>
 Ca 46 [b] c fun c d=>
 Ex c 0 32 d fun _ d=>
 Ex c 1 39 d fun c d=>
 Al 39 d fun d e=>
 St 39 d c e fun _ c=>
 Ld 39 d c fun c d=>
 Ca 49 [b,c] d fun b c=>
 St 39 a b c fun _ b=>
 (aO Tryz.prog 39 a b fun a=>R (.returned a) b)
theorem kC (h:im p0 w R):CC 40 #[p0] w R:=
  aw .leaf [p0] bo Tryz.func40 (by kernel_rfl) (by kernel_rfl) h

def nu:V3:=fun p0 p1 p2 w R=>
 Bx 39 p0 w fun a b=>
 Bx 3 p1 b fun b c=>
 Bx 70 p2 c fun c d=>
 Ld 70 c d fun d e=>
 RR (sOp (.nilCheck (.const d)) 0) e fun e f=>
 Ld 3 e f fun e f=>
 Bb .add 3 e (nn 1) f fun e f=>
 RR (sOp (.nilCheck (.const d)) 0) f fun d f=>
 St 3 d e f fun _ d=>
 (∃ e:QP1,(
 Ld 70 c d fun c d=>
 RR (sOp (.nilCheck (.const c)) 0) d fun c d=>
 Ld 3 c d fun c d=>
 Bb .gtr 3 c (nn 60) d fun c d=>
 ((fun a:VW=>ag c false (
 Ld 3 b d fun b d=>
 Bb .gtr 3 b (nn 20) d fun b d=>
 Pk c (.bool true) b d fun b c=>a b c) (
 Pk c (.bool true) undef d fun b c=>a b c)) fun b c=>
 ((fun d:VW=>ag b false (
 Fd 39 a 0 c fun a c=>
 Ld 36 a c fun a c=>
 Ca 63 [a] c fun a c=>
 Nt a c fun a c=>
 Pk b (.bool true) a c fun a b=>d a b) (
 Pk b (.bool true) undef c fun a b=>d a b)) fun b c=>
 ((fun d:VW=>ag b false (
 Fd 39 a 1 c fun a c=>
 Ld 3 a c fun a c=>
 Ca 64 [a,(.int .i64 (-1)),(nn 19)] c fun a c=>
 Nt a c fun a c=>
 Pk b (.bool true) a c fun a b=>d a b) (
 Pk b (.bool true) undef c fun a b=>d a b)) fun b c=>
 ag b false (
 Fd 39 a 2 c fun a c=>
 Ld 37 a c fun a c=>
 Ln 37 a c fun a c=>
 Bb .gtr 3 a (nn 6) c fun a c=>
 Pk b (.bool true) a c fun a b=>
 e a b) (
 Pk b (.bool true) undef c fun a b=>
 e a b)))))/\
 ∀ d _ _ _ _ _ _ _ _ _ _ _ _ _ _ _ _ _ _ _ _ _ _ _ _ _:Value,∀ f:World,e d f->
 CondV d (
 R (.returned (.bool false)) f) (
 Fd 39 a 2 f fun a d=>
 Ld 37 a d fun a d=>
 RR (iG (.func 66) [] [b,c]) d fun b c=>
 Ca 65 [a,b] c fun a b=>
 Nt a b fun a b=>
 R (.returned a) b))
theorem qZ (h:nu p0 p1 p2 w R):CC 41 #[p0,p1,p2] w R:=
  aw (.seq none .leaf (.seq none .leaf (.seq none (.seq (some [37]) .leaf .leaf) .leaf))) [p0,p1,p2] bo Tryz.func41 (by kernel_rfl) (by kernel_rfl) h

def pS:V2:=fun p0 p1 w R=>
 Bx 39 p0 w fun a b=>
 (∃ (c:QP2) (d:QN2),c (nn 0) (nn 1) b/\
 ∀ b _ _ e _ _ _ _ _ _ _ _ _ _ _ _ _ _ _ _ _ _ _ _ _:Value,∀ f:World,c b e f->
 (∃ g:QP1,(
 Fd 39 a 2 f fun a c=>
 Ld 37 a c fun a c=>
 Ln 37 a c fun a c=>
 Ba .lss 3 b a c fun a b=>
 ag a true (
 Ba .leq 3 e p1 b fun b c=>
 Pk a b (.bool false) c fun a b=>
 g a b) (
 Pk a undef (.bool false) b fun a b=>
 g a b))/\
 ∀ h _ _ _ _ _ _ _ _ _:Value,∀ i:World,g h i->
 CondV h (
 Fd 39 a 2 i fun a g=>
 Ld 37 a g fun a g=>
 Ia 37 a b g fun a g=>
 Ld 39 a g fun a g=>
 Ba .sub 3 p1 e g fun g h=>
 Ca 42 [a,g] h fun a g=>
 Ba .add 3 e a g fun a g=>
 Bb .add 3 b (nn 1) g fun g h=>
 c g a h/\d g a h<d b e f) (
 R (.returned e) i)))
theorem wg (h:pS p0 p1 w R):CC 42 #[p0,p1] w R:=
  aw (.seq none .leaf (.seq none .leaf (.seq none (.seq none .leaf (.one (.loop [6,5] (.seq none (.seq (some [16]) .leaf .leaf) .leaf)))) .leaf))) [p0,p1] bo Tryz.func42 (by kernel_rfl) (by kernel_rfl) h

def se:V1:=fun p0 w R=>
 (∃ a:QP1,(
 Ln 44 p0 w fun b c=>
 Bb .gtr 3 b (nn 2000) c fun b c=>
 CondV b (
 RR (sOp (.slice 44 (.const p0) none (some (.const (nn 2000))) none) 44) c fun b c=>
 a b c) (
 a p0 c))/\
 ∀ b _ _ _ _ _:Value,∀ c:World,a b c->
 RR (bD 98 [(0,b)]) c fun a b=>
 RR (sOp (.box 98 (.const a)) 77) b fun a b=>
 R (.returned a) b)
theorem wn (h:se p0 w R):CC 45 #[p0] w R:=
  aw (.seq none .leaf (.seq (some [0]) .leaf .leaf)) [p0] bo Tryz.func45 (by kernel_rfl) (by kernel_rfl) h

def ro:V1:=fun p0 w R=>
 Al 39 w fun a b=>
 Ca 67 [p0] b fun b c=>
 Ex b 0 32 c fun c d=>
 Ex b 1 36 d fun b d=>
 Al 36 d fun d e=>
 St 36 d b e fun _ b=>
 Ld 36 d b fun b e=>
 Ca 68 [c,b,(nn 100)] e fun b e=>
 Ex b 0 39 e fun e f=>
 Ex b 1 4 f fun b f=>
 Al 39 f fun f g=>
 St 39 f e g fun _ e=>
 (∃ g:World->Prop,(
 Nt b e fun a b=>
 CondV a (
 (∃ a:NB->QP4,a fF undef undef undef undef { b with drawn:=b.drawn+1 }/\(
 (∀ b:NB,b 0=false->∀ c e f g h,a b c e f g h->
 Ld 36 d h fun d g=>
 a (ah b 0) c e f d g)/\
 (∀ b:NB,b 1=false->∀ c d e f g,a b c d e f g->
 a (ah b 1) c d p0 f g)/\
 (∀ b:NB,b 2=false->b 1=true->∀ c d e f g,a b c d e f g->
 Ca 47 [e,(nn 2)] g fun d g=>
 a (ah b 2) c d e f g)/\
 (∀ b:NB,b 3=false->b 0=true->b 2=true->∀ c d e f g,a b c d e f g->
 RR (bD 39 [(0,f),(1,d)]) g fun c g=>
 a (ah b 3) c d e f g)/\
 (∀ b:NB,b 4=false->b 3=true->b 2=true->b 0=true->b 1=true->b 2=true->b 3=true->∀ c d e g h,a b c d e g h->
 St 39 f c h fun _ f=>
 a (ah b 4) c d e g f)/\
 True)/\
 ∀ b:NB,b 4=true->b 3=true->b 2=true->b 1=true->b 0=true->∀ c d e f h,a b c d e f h->
 g h)) (
 g b))/\
 ∀ _ _ _ _ _ _:Value,∀ b:World,g b->
 (∃ d:NB->QP3,d fF (Value.slice none 0 0) undef undef { b with drawn:=b.drawn+1 }/\(
 (∀ a:NB,a 0=false->∀ b e f g,d a b e f g->
 d (ah a 0) b e c g)/\
 (∀ a:NB,a 1=false->∀ b c e g,d a b c e g->
 Ld 39 f g fun c f=>
 d (ah a 1) b c e f)/\
 (∀ a:NB,a 2=false->a 0=true->a 0=true->∀ b c e f,d a b c e f->
 d (ah a 2) e c e f)/\
 (∀ b:NB,b 3=false->b 1=true->b 2=true->b 0=true->b 1=true->b 2=true->∀ c e f g,d b c e f g->
 St 39 a e g fun _ a=>
 d (ah b 3) c e f a)/\
 True)/\
 ∀ b:NB,b 3=true->b 2=true->b 1=true->b 0=true->∀ c e f g,d b c e f g->
 (aO Tryz.prog 39 a g fun a=>R (.returned (.tuple #[c,a])) g)))
theorem vU (h:ro p0 w R):CC 46 #[p0] w R:=
  aw (.seq none .leaf (.seq none .leaf (.seq none .leaf (.seq (some []) .leaf .leaf)))) [p0] bo Tryz.func46 (by kernel_rfl) (by kernel_rfl) h

def ly:V2:=fun p0 p1 w R=>
 RR (sOp (.nilCheck (.const p0)) 0) w fun a b=>
 Fd 98 a 1 b fun a b=>
 Ld 3 a b fun a b=>
 Bb .add 3 a (nn 1) b fun a b=>
 RR (sOp (.nilCheck (.const p0)) 0) b fun b c=>
 Fd 98 b 1 c fun b c=>
 St 3 b a c fun _ a=>
 (∃ b:QP1,(
 Bb .lss 3 p1 (nn 1) a fun a c=>
 ag a false (
 RR (sOp (.nilCheck (.const p0)) 0) c fun c d=>
 Fd 98 c 0 d fun c d=>
 Ld 44 c d fun c d=>
 Ln 44 c d fun c d=>
 Bb .eql 3 c (nn 0) d fun c d=>
 Pk a (.bool true) c d fun a c=>
 b a c) (
 Pk a (.bool true) undef c fun a c=>
 b a c))/\
 ∀ a _ _ _ _ _ _ _ _ _:Value,∀ c:World,b a c->
 CondV a (
 R (.returned (nn 0)) c) (
 RR (sOp (.nilCheck (.const p0)) 0) c fun a b=>
 Fd 98 a 1 b fun a b=>
 Ld 3 a b fun a b=>
 Bb .sub 3 a (nn 1) b fun a b=>
 RR (sOp (.nilCheck (.const p0)) 0) b fun b c=>
 Fd 98 b 0 c fun b c=>
 Ld 44 b c fun b c=>
 Ln 44 b c fun b c=>
 Ba .lss 3 a b c fun b c=>
 CondV b (
 RR (sOp (.nilCheck (.const p0)) 0) c fun b c=>
 Fd 98 b 0 c fun b c=>
 Ld 44 b c fun b c=>
 Ia 44 b a c fun a b=>
 Ld 5 a b fun a b=>
 RR (sOp (.convert 5 3 (.const a)) 3) b fun a b=>
 Ba .rem 3 a p1 b fun a b=>
 R (.returned a) b) (
 (∃ b:NB->Oy,b fF undef undef undef undef undef undef undef undef undef undef undef undef undef undef undef undef undef undef undef undef undef undef undef undef undef undef undef undef undef undef undef undef undef undef undef undef undef undef undef undef undef undef undef undef undef undef { c with drawn:=c.drawn+1 }/\(
 (∀ a:NB,a 0=false->∀ c d e f g h i j k l m n o p q r s t u v x y z A B C D E F G H I J K L M N O P Q S T U V W X Y,b a c d e f g h i j k l m n o p q r s t u v x y z A B C D E F G H I J K L M N O P Q S T U V W X Y->
 b (ah a 0) c d e f g h i j k l m n o p q r s t u v x y z A B C D E F G H I J K L M N O P Q S T U V W p0 Y)/\
 (∀ a:NB,a 1=false->a 0=true->∀ c d e f g h i j k l m n o p q r s t u v x y z A B C D E F G H I J K L M N O P Q S T U V W X Y,b a c d e f g h i j k l m n o p q r s t u v x y z A B C D E F G H I J K L M N O P Q S T U V W X Y->
 RR (sOp (.nilCheck (.const X)) 0) Y fun W Y=>
 b (ah a 1) c d e f g h i j k l m n o p q r s t u v x y z A B C D E F G H I J K L M N O P Q S T U V W X Y)/\
 (∀ a:NB,a 2=false->a 1=true->∀ c d e f g h i j k l m n o p q r s t u v x y z A B C D E F G H I J K L M N O P Q S T U V W X Y,b a c d e f g h i j k l m n o p q r s t u v x y z A B C D E F G H I J K L M N O P Q S T U V W X Y->
 Fd 98 W 0 Y fun V Y=>
 b (ah a 2) c d e f g h i j k l m n o p q r s t u v x y z A B C D E F G H I J K L M N O P Q S T U V W X Y)/\
 (∀ a:NB,a 3=false->a 2=true->∀ c d e f g h i j k l m n o p q r s t u v x y z A B C D E F G H I J K L M N O P Q S T U V W X Y,b a c d e f g h i j k l m n o p q r s t u v x y z A B C D E F G H I J K L M N O P Q S T U V W X Y->
 Ld 44 V Y fun U Y=>
 b (ah a 3) c d e f g h i j k l m n o p q r s t u v x y z A B C D E F G H I J K L M N O P Q S T U V W X Y)/\
 (∀ c:NB,c 4=false->∀ d e f g h i j k l m n o p q r s t u v x y z A B C D E F G H I J K L M N O P Q S T U V W X Y Z,b c d e f g h i j k l m n o p q r s t u v x y z A B C D E F G H I J K L M N O P Q S T U V W X Y Z->
 b (ah c 4) d e f g h i j k l m n o p q r s t u v x y z A B C D E F G H I J K L M N O P Q S T a V W X Y Z)/\
 (∀ a:NB,a 5=false->∀ c d e f g h i j k l m n o p q r s t u v x y z A B C D E F G H I J K L M N O P Q S T U V W X Y,b a c d e f g h i j k l m n o p q r s t u v x y z A B C D E F G H I J K L M N O P Q S T U V W X Y->
 b (ah a 5) c d e f g h i j k l m n o p q r s t u v x y z A B C D E F G H I J K L M N O P Q p0 T U V W X Y)/\
 (∀ a:NB,a 6=false->a 5=true->∀ c d e f g h i j k l m n o p q r s t u v x y z A B C D E F G H I J K L M N O P Q S T U V W X Y,b a c d e f g h i j k l m n o p q r s t u v x y z A B C D E F G H I J K L M N O P Q S T U V W X Y->
 RR (sOp (.nilCheck (.const S)) 0) Y fun Q Y=>
 b (ah a 6) c d e f g h i j k l m n o p q r s t u v x y z A B C D E F G H I J K L M N O P Q S T U V W X Y)/\
 (∀ a:NB,a 7=false->a 6=true->∀ c d e f g h i j k l m n o p q r s t u v x y z A B C D E F G H I J K L M N O P Q S T U V W X Y,b a c d e f g h i j k l m n o p q r s t u v x y z A B C D E F G H I J K L M N O P Q S T U V W X Y->
 Fd 98 Q 0 Y fun P Y=>
 b (ah a 7) c d e f g h i j k l m n o p q r s t u v x y z A B C D E F G H I J K L M N O P Q S T U V W X Y)/\
 (∀ a:NB,a 8=false->a 7=true->∀ c d e f g h i j k l m n o p q r s t u v x y z A B C D E F G H I J K L M N O P Q S T U V W X Y,b a c d e f g h i j k l m n o p q r s t u v x y z A B C D E F G H I J K L M N O P Q S T U V W X Y->
 Ld 44 P Y fun O Y=>
 b (ah a 8) c d e f g h i j k l m n o p q r s t u v x y z A B C D E F G H I J K L M N O P Q S T U V W X Y)/\
 (∀ a:NB,a 9=false->a 8=true->∀ c d e f g h i j k l m n o p q r s t u v x y z A B C D E F G H I J K L M N O P Q S T U V W X Y,b a c d e f g h i j k l m n o p q r s t u v x y z A B C D E F G H I J K L M N O P Q S T U V W X Y->
 Ln 44 O Y fun N Y=>
 b (ah a 9) c d e f g h i j k l m n o p q r s t u v x y z A B C D E F G H I J K L M N O P Q S T U V W X Y)/\
 (∀ a:NB,a 10=false->a 4=true->a 9=true->∀ c d e f g h i j k l m n o p q r s t u v x y z A B C D E F G H I J K L M N O P Q S T U V W X Y,b a c d e f g h i j k l m n o p q r s t u v x y z A B C D E F G H I J K L M N O P Q S T U V W X Y->
 Ba .rem 3 T N Y fun M Y=>
 b (ah a 10) c d e f g h i j k l m n o p q r s t u v x y z A B C D E F G H I J K L M N O P Q S T U V W X Y)/\
 (∀ a:NB,a 11=false->a 3=true->a 10=true->∀ c d e f g h i j k l m n o p q r s t u v x y z A B C D E F G H I J K L M N O P Q S T U V W X Y,b a c d e f g h i j k l m n o p q r s t u v x y z A B C D E F G H I J K L M N O P Q S T U V W X Y->
 Ia 44 U M Y fun L Y=>
 b (ah a 11) c d e f g h i j k l m n o p q r s t u v x y z A B C D E F G H I J K L M N O P Q S T U V W X Y)/\
 (∀ a:NB,a 12=false->a 11=true->∀ c d e f g h i j k l m n o p q r s t u v x y z A B C D E F G H I J K L M N O P Q S T U V W X Y,b a c d e f g h i j k l m n o p q r s t u v x y z A B C D E F G H I J K L M N O P Q S T U V W X Y->
 Ld 5 L Y fun K Y=>
 b (ah a 12) c d e f g h i j k l m n o p q r s t u v x y z A B C D E F G H I J K L M N O P Q S T U V W X Y)/\
 (∀ a:NB,a 13=false->a 12=true->∀ c d e f g h i j k l m n o p q r s t u v x y z A B C D E F G H I J K L M N O P Q S T U V W X Y,b a c d e f g h i j k l m n o p q r s t u v x y z A B C D E F G H I J K L M N O P Q S T U V W X Y->
 RR (sOp (.convert 5 3 (.const K)) 3) Y fun J Y=>
 b (ah a 13) c d e f g h i j k l m n o p q r s t u v x y z A B C D E F G H I J K L M N O P Q S T U V W X Y)/\
 (∀ a:NB,a 14=false->a 13=true->∀ c d e f g h i j k l m n o p q r s t u v x y z A B C D E F G H I J K L M N O P Q S T U V W X Y,b a c d e f g h i j k l m n o p q r s t u v x y z A B C D E F G H I J K L M N O P Q S T U V W X Y->
 Bb .mul 3 J (nn 131) Y fun I Y=>
 b (ah a 14) c d e f g h i j k l m n o p q r s t u v x y z A B C D E F G H I J K L M N O P Q S T U V W X Y)/\
 (∀ a:NB,a 15=false->∀ c d e f g h i j k l m n o p q r s t u v x y z A B C D E F G H I J K L M N O P Q S T U V W X Y,b a c d e f g h i j k l m n o p q r s t u v x y z A B C D E F G H I J K L M N O P Q S T U V W X Y->
 b (ah a 15) c d e f g h i j k l m n o p q r s t u v x y z A B C D E F G p0 I J K L M N O P Q S T U V W X Y)/\
 (∀ a:NB,a 16=false->a 15=true->∀ c d e f g h i j k l m n o p q r s t u v x y z A B C D E F G H I J K L M N O P Q S T U V W X Y,b a c d e f g h i j k l m n o p q r s t u v x y z A B C D E F G H I J K L M N O P Q S T U V W X Y->
 RR (sOp (.nilCheck (.const H)) 0) Y fun G Y=>
 b (ah a 16) c d e f g h i j k l m n o p q r s t u v x y z A B C D E F G H I J K L M N O P Q S T U V W X Y)/\
 (∀ a:NB,a 17=false->a 16=true->∀ c d e f g h i j k l m n o p q r s t u v x y z A B C D E F G H I J K L M N O P Q S T U V W X Y,b a c d e f g h i j k l m n o p q r s t u v x y z A B C D E F G H I J K L M N O P Q S T U V W X Y->
 Fd 98 G 0 Y fun F Y=>
 b (ah a 17) c d e f g h i j k l m n o p q r s t u v x y z A B C D E F G H I J K L M N O P Q S T U V W X Y)/\
 (∀ a:NB,a 18=false->a 17=true->∀ c d e f g h i j k l m n o p q r s t u v x y z A B C D E F G H I J K L M N O P Q S T U V W X Y,b a c d e f g h i j k l m n o p q r s t u v x y z A B C D E F G H I J K L M N O P Q S T U V W X Y->
 Ld 44 F Y fun E Y=>
 b (ah a 18) c d e f g h i j k l m n o p q r s t u v x y z A B C D E F G H I J K L M N O P Q S T U V W X Y)/\
 (∀ c:NB,c 19=false->∀ d e f g h i j k l m n o p q r s t u v x y z A B C D E F G H I J K L M N O P Q S T U V W X Y Z,b c d e f g h i j k l m n o p q r s t u v x y z A B C D E F G H I J K L M N O P Q S T U V W X Y Z->
 b (ah c 19) d e f g h i j k l m n o p q r s t u v x y z A B C D a F G H I J K L M N O P Q S T U V W X Y Z)/\
 (∀ a:NB,a 20=false->a 19=true->∀ c d e f g h i j k l m n o p q r s t u v x y z A B C D E F G H I J K L M N O P Q S T U V W X Y,b a c d e f g h i j k l m n o p q r s t u v x y z A B C D E F G H I J K L M N O P Q S T U V W X Y->
 Bb .mul 3 D (nn 7) Y fun C Y=>
 b (ah a 20) c d e f g h i j k l m n o p q r s t u v x y z A B C D E F G H I J K L M N O P Q S T U V W X Y)/\
 (∀ a:NB,a 21=false->a 20=true->∀ c d e f g h i j k l m n o p q r s t u v x y z A B C D E F G H I J K L M N O P Q S T U V W X Y,b a c d e f g h i j k l m n o p q r s t u v x y z A B C D E F G H I J K L M N O P Q S T U V W X Y->
 Bb .add 3 C (nn 3) Y fun B Y=>
 b (ah a 21) c d e f g h i j k l m n o p q r s t u v x y z A B C D E F G H I J K L M N O P Q S T U V W X Y)/\
 (∀ a:NB,a 22=false->∀ c d e f g h i j k l m n o p q r s t u v x y z A B C D E F G H I J K L M N O P Q S T U V W X Y,b a c d e f g h i j k l m n o p q r s t u v x y z A B C D E F G H I J K L M N O P Q S T U V W X Y->
 b (ah a 22) c d e f g h i j k l m n o p q r s t u v x y z p0 B C D E F G H I J K L M N O P Q S T U V W X Y)/\
 (∀ a:NB,a 23=false->a 22=true->∀ c d e f g h i j k l m n o p q r s t u v x y z A B C D E F G H I J K L M N O P Q S T U V W X Y,b a c d e f g h i j k l m n o p q r s t u v x y z A B C D E F G H I J K L M N O P Q S T U V W X Y->
 RR (sOp (.nilCheck (.const A)) 0) Y fun z Y=>
 b (ah a 23) c d e f g h i j k l m n o p q r s t u v x y z A B C D E F G H I J K L M N O P Q S T U V W X Y)/\
 (∀ a:NB,a 24=false->a 23=true->∀ c d e f g h i j k l m n o p q r s t u v x y z A B C D E F G H I J K L M N O P Q S T U V W X Y,b a c d e f g h i j k l m n o p q r s t u v x y z A B C D E F G H I J K L M N O P Q S T U V W X Y->
 Fd 98 z 0 Y fun y Y=>
 b (ah a 24) c d e f g h i j k l m n o p q r s t u v x y z A B C D E F G H I J K L M N O P Q S T U V W X Y)/\
 (∀ a:NB,a 25=false->a 24=true->∀ c d e f g h i j k l m n o p q r s t u v x y z A B C D E F G H I J K L M N O P Q S T U V W X Y,b a c d e f g h i j k l m n o p q r s t u v x y z A B C D E F G H I J K L M N O P Q S T U V W X Y->
 Ld 44 y Y fun x Y=>
 b (ah a 25) c d e f g h i j k l m n o p q r s t u v x y z A B C D E F G H I J K L M N O P Q S T U V W X Y)/\
 (∀ a:NB,a 26=false->a 25=true->∀ c d e f g h i j k l m n o p q r s t u v x y z A B C D E F G H I J K L M N O P Q S T U V W X Y,b a c d e f g h i j k l m n o p q r s t u v x y z A B C D E F G H I J K L M N O P Q S T U V W X Y->
 Ln 44 x Y fun v Y=>
 b (ah a 26) c d e f g h i j k l m n o p q r s t u v x y z A B C D E F G H I J K L M N O P Q S T U V W X Y)/\
 (∀ a:NB,a 27=false->a 21=true->a 26=true->∀ c d e f g h i j k l m n o p q r s t u v x y z A B C D E F G H I J K L M N O P Q S T U V W X Y,b a c d e f g h i j k l m n o p q r s t u v x y z A B C D E F G H I J K L M N O P Q S T U V W X Y->
 Ba .rem 3 B v Y fun u Y=>
 b (ah a 27) c d e f g h i j k l m n o p q r s t u v x y z A B C D E F G H I J K L M N O P Q S T U V W X Y)/\
 (∀ a:NB,a 28=false->a 18=true->a 27=true->∀ c d e f g h i j k l m n o p q r s t u v x y z A B C D E F G H I J K L M N O P Q S T U V W X Y,b a c d e f g h i j k l m n o p q r s t u v x y z A B C D E F G H I J K L M N O P Q S T U V W X Y->
 Ia 44 E u Y fun t Y=>
 b (ah a 28) c d e f g h i j k l m n o p q r s t u v x y z A B C D E F G H I J K L M N O P Q S T U V W X Y)/\
 (∀ a:NB,a 29=false->a 28=true->∀ c d e f g h i j k l m n o p q r s t u v x y z A B C D E F G H I J K L M N O P Q S T U V W X Y,b a c d e f g h i j k l m n o p q r s t u v x y z A B C D E F G H I J K L M N O P Q S T U V W X Y->
 Ld 5 t Y fun s Y=>
 b (ah a 29) c d e f g h i j k l m n o p q r s t u v x y z A B C D E F G H I J K L M N O P Q S T U V W X Y)/\
 (∀ a:NB,a 30=false->a 29=true->∀ c d e f g h i j k l m n o p q r s t u v x y z A B C D E F G H I J K L M N O P Q S T U V W X Y,b a c d e f g h i j k l m n o p q r s t u v x y z A B C D E F G H I J K L M N O P Q S T U V W X Y->
 RR (sOp (.convert 5 3 (.const s)) 3) Y fun r Y=>
 b (ah a 30) c d e f g h i j k l m n o p q r s t u v x y z A B C D E F G H I J K L M N O P Q S T U V W X Y)/\
 (∀ a:NB,a 31=false->a 30=true->∀ c d e f g h i j k l m n o p q r s t u v x y z A B C D E F G H I J K L M N O P Q S T U V W X Y,b a c d e f g h i j k l m n o p q r s t u v x y z A B C D E F G H I J K L M N O P Q S T U V W X Y->
 Bb .mul 3 r (nn 1117) Y fun q Y=>
 b (ah a 31) c d e f g h i j k l m n o p q r s t u v x y z A B C D E F G H I J K L M N O P Q S T U V W X Y)/\
 (∀ a:NB,a 32=false->a 14=true->a 31=true->∀ c d e f g h i j k l m n o p q r s t u v x y z A B C D E F G H I J K L M N O P Q S T U V W X Y,b a c d e f g h i j k l m n o p q r s t u v x y z A B C D E F G H I J K L M N O P Q S T U V W X Y->
 Ba .add 3 I q Y fun p Y=>
 b (ah a 32) c d e f g h i j k l m n o p q r s t u v x y z A B C D E F G H I J K L M N O P Q S T U V W X Y)/\
 (∀ c:NB,c 33=false->∀ d e f g h i j k l m n o p q r s t u v x y z A B C D E F G H I J K L M N O P Q S T U V W X Y Z,b c d e f g h i j k l m n o p q r s t u v x y z A B C D E F G H I J K L M N O P Q S T U V W X Y Z->
 b (ah c 33) d e f g h i j k l m n o a q r s t u v x y z A B C D E F G H I J K L M N O P Q S T U V W X Y Z)/\
 (∀ a:NB,a 34=false->a 33=true->∀ c d e f g h i j k l m n o p q r s t u v x y z A B C D E F G H I J K L M N O P Q S T U V W X Y,b a c d e f g h i j k l m n o p q r s t u v x y z A B C D E F G H I J K L M N O P Q S T U V W X Y->
 Bb .mul 3 o (nn 29) Y fun n Y=>
 b (ah a 34) c d e f g h i j k l m n o p q r s t u v x y z A B C D E F G H I J K L M N O P Q S T U V W X Y)/\
 (∀ a:NB,a 35=false->a 32=true->a 34=true->∀ c d e f g h i j k l m n o p q r s t u v x y z A B C D E F G H I J K L M N O P Q S T U V W X Y,b a c d e f g h i j k l m n o p q r s t u v x y z A B C D E F G H I J K L M N O P Q S T U V W X Y->
 Ba .add 3 p n Y fun m Y=>
 b (ah a 35) c d e f g h i j k l m n o p q r s t u v x y z A B C D E F G H I J K L M N O P Q S T U V W X Y)/\
 (∀ c:NB,c 36=false->∀ d e f g h i j k l m n o p q r s t u v x y z A B C D E F G H I J K L M N O P Q S T U V W X Y Z,b c d e f g h i j k l m n o p q r s t u v x y z A B C D E F G H I J K L M N O P Q S T U V W X Y Z->
 b (ah c 36) d e f g h i j k l a n o p q r s t u v x y z A B C D E F G H I J K L M N O P Q S T U V W X Y Z)/\
 (∀ a:NB,a 37=false->∀ c d e f g h i j k l m n o p q r s t u v x y z A B C D E F G H I J K L M N O P Q S T U V W X Y,b a c d e f g h i j k l m n o p q r s t u v x y z A B C D E F G H I J K L M N O P Q S T U V W X Y->
 b (ah a 37) c d e f g h i j p0 l m n o p q r s t u v x y z A B C D E F G H I J K L M N O P Q S T U V W X Y)/\
 (∀ a:NB,a 38=false->a 37=true->∀ c d e f g h i j k l m n o p q r s t u v x y z A B C D E F G H I J K L M N O P Q S T U V W X Y,b a c d e f g h i j k l m n o p q r s t u v x y z A B C D E F G H I J K L M N O P Q S T U V W X Y->
 RR (sOp (.nilCheck (.const k)) 0) Y fun j Y=>
 b (ah a 38) c d e f g h i j k l m n o p q r s t u v x y z A B C D E F G H I J K L M N O P Q S T U V W X Y)/\
 (∀ a:NB,a 39=false->a 38=true->∀ c d e f g h i j k l m n o p q r s t u v x y z A B C D E F G H I J K L M N O P Q S T U V W X Y,b a c d e f g h i j k l m n o p q r s t u v x y z A B C D E F G H I J K L M N O P Q S T U V W X Y->
 Fd 98 j 0 Y fun i Y=>
 b (ah a 39) c d e f g h i j k l m n o p q r s t u v x y z A B C D E F G H I J K L M N O P Q S T U V W X Y)/\
 (∀ a:NB,a 40=false->a 39=true->∀ c d e f g h i j k l m n o p q r s t u v x y z A B C D E F G H I J K L M N O P Q S T U V W X Y,b a c d e f g h i j k l m n o p q r s t u v x y z A B C D E F G H I J K L M N O P Q S T U V W X Y->
 Ld 44 i Y fun h Y=>
 b (ah a 40) c d e f g h i j k l m n o p q r s t u v x y z A B C D E F G H I J K L M N O P Q S T U V W X Y)/\
 (∀ a:NB,a 41=false->a 40=true->∀ c d e f g h i j k l m n o p q r s t u v x y z A B C D E F G H I J K L M N O P Q S T U V W X Y,b a c d e f g h i j k l m n o p q r s t u v x y z A B C D E F G H I J K L M N O P Q S T U V W X Y->
 Ln 44 h Y fun g Y=>
 b (ah a 41) c d e f g h i j k l m n o p q r s t u v x y z A B C D E F G H I J K L M N O P Q S T U V W X Y)/\
 (∀ a:NB,a 42=false->a 36=true->a 41=true->∀ c d e f g h i j k l m n o p q r s t u v x y z A B C D E F G H I J K L M N O P Q S T U V W X Y,b a c d e f g h i j k l m n o p q r s t u v x y z A B C D E F G H I J K L M N O P Q S T U V W X Y->
 Ba .quo 3 l g Y fun f Y=>
 b (ah a 42) c d e f g h i j k l m n o p q r s t u v x y z A B C D E F G H I J K L M N O P Q S T U V W X Y)/\
 (∀ a:NB,a 43=false->a 42=true->∀ c d e f g h i j k l m n o p q r s t u v x y z A B C D E F G H I J K L M N O P Q S T U V W X Y,b a c d e f g h i j k l m n o p q r s t u v x y z A B C D E F G H I J K L M N O P Q S T U V W X Y->
 Bb .mul 3 f (nn 53) Y fun e Y=>
 b (ah a 43) c d e f g h i j k l m n o p q r s t u v x y z A B C D E F G H I J K L M N O P Q S T U V W X Y)/\
 (∀ a:NB,a 44=false->a 35=true->a 43=true->∀ c d e f g h i j k l m n o p q r s t u v x y z A B C D E F G H I J K L M N O P Q S T U V W X Y,b a c d e f g h i j k l m n o p q r s t u v x y z A B C D E F G H I J K L M N O P Q S T U V W X Y->
 Ba .add 3 m e Y fun d Y=>
 b (ah a 44) c d e f g h i j k l m n o p q r s t u v x y z A B C D E F G H I J K L M N O P Q S T U V W X Y)/\
 (∀ a:NB,a 45=false->a 44=true->a 0=true->a 1=true->a 2=true->a 3=true->a 4=true->a 5=true->a 6=true->a 7=true->a 8=true->a 9=true->a 10=true->a 11=true->a 12=true->a 13=true->a 14=true->a 15=true->a 16=true->a 17=true->a 18=true->a 19=true->a 20=true->a 21=true->a 22=true->a 23=true->a 24=true->a 25=true->a 26=true->a 27=true->a 28=true->a 29=true->a 30=true->a 31=true->a 32=true->a 33=true->a 34=true->a 35=true->a 36=true->a 37=true->a 38=true->a 39=true->a 40=true->a 41=true->a 42=true->a 43=true->a 44=true->∀ c d e f g h i j k l m n o p q r s t u v x y z A B C D E F G H I J K L M N O P Q S T U V W X Y,b a c d e f g h i j k l m n o p q r s t u v x y z A B C D E F G H I J K L M N O P Q S T U V W X Y->
 b (ah a 45) d d e f g h i j k l m n o p q r s t u v x y z A B C D E F G H I J K L M N O P Q S T U V W X Y)/\
 True)/\
 ∀ a:NB,a 45=true->a 44=true->a 43=true->a 42=true->a 41=true->a 40=true->a 39=true->a 38=true->a 37=true->a 36=true->a 35=true->a 34=true->a 33=true->a 32=true->a 31=true->a 30=true->a 29=true->a 28=true->a 27=true->a 26=true->a 25=true->a 24=true->a 23=true->a 22=true->a 21=true->a 20=true->a 19=true->a 18=true->a 17=true->a 16=true->a 15=true->a 14=true->a 13=true->a 12=true->a 11=true->a 10=true->a 9=true->a 8=true->a 7=true->a 6=true->a 5=true->a 4=true->a 3=true->a 2=true->a 1=true->a 0=true->∀ c d e f g h i j k l m n o p q r s t u v x y z A B C D E F G H I J K L M N O P Q S T U V W X Y,b a c d e f g h i j k l m n o p q r s t u v x y z A B C D E F G H I J K L M N O P Q S T U V W X Y->
 Bb .quo 3 c (nn 64) Y fun a b=>
 Ba .xor 3 c a b fun a b=>
 Ba .rem 3 a p1 b fun a b=>
 R (.returned a) b))))
theorem pg (h:ly p0 p1 w R):CC 47 #[p0,p1] w R:=
  aw (.seq none .leaf (.seq none .leaf (.seq none (.seq (some [24]) .leaf .leaf) .leaf))) [p0,p1] bo Tryz.func47 (by kernel_rfl) (by kernel_rfl) h

def mj:V2:=fun p0 p1 w R=>
 Bx 39 p1 w fun a b=>
 Al 39 b fun b c=>
 (∃ d:NB->LK,d fF undef undef undef undef undef undef undef undef undef undef undef { c with drawn:=c.drawn+1 }/\(
 (∀ b:NB,b 0=false->∀ c e f g h i j k l m n o,d b c e f g h i j k l m n o->
 Fd 39 a 0 o fun a n=>
 d (ah b 0) c e f g h i j k l m a n)/\
 (∀ a:NB,a 1=false->a 0=true->∀ b c e f g h i j k l m n,d a b c e f g h i j k l m n->
 Ld 36 m n fun l n=>
 d (ah a 1) b c e f g h i j k l m n)/\
 (∀ a:NB,a 2=false->a 1=true->∀ b c e f g h i j k l m n,d a b c e f g h i j k l m n->
 Ca 71 [l] n fun k n=>
 d (ah a 2) b c e f g h i j k l m n)/\
 (∀ b:NB,b 3=false->∀ c e f g h i j k l m n o,d b c e f g h i j k l m n o->
 Fd 39 a 1 o fun a k=>
 d (ah b 3) c e f g h i j a l m n k)/\
 (∀ a:NB,a 4=false->a 3=true->∀ b c e f g h i j k l m n,d a b c e f g h i j k l m n->
 Ld 3 j n fun i n=>
 d (ah a 4) b c e f g h i j k l m n)/\
 (∀ a:NB,a 5=false->∀ b c e f g h i j k l m n,d a b c e f g h i j k l m n->
 RR (av 37 0 []) n fun h n=>
 d (ah a 5) b c e f g h i j k l m n)/\
 (∀ b:NB,b 6=false->∀ c e f g h i j k l m n o,d b c e f g h i j k l m n o->
 Fd 39 a 2 o fun a h=>
 d (ah b 6) c e f g a i j k l m n h)/\
 (∀ a:NB,a 7=false->a 6=true->∀ b c e f g h i j k l m n,d a b c e f g h i j k l m n->
 Ld 37 g n fun f n=>
 d (ah a 7) b c e f g h i j k l m n)/\
 (∀ a:NB,a 8=false->a 5=true->a 7=true->a 2=true->∀ b c e f g h i j k l m n,d a b c e f g h i j k l m n->
 RR (bx .append #[37,37] 37 [false,false] [h,f]) n fun e n=>
 d (ah a 8) b c e f g h i j k l m n)/\
 (∀ a:NB,a 9=false->a 2=true->a 4=true->a 8=true->∀ b c e f g h i j k l m n,d a b c e f g h i j k l m n->
 RR (bD 39 [(0,k),(1,i),(2,e)]) n fun c n=>
 d (ah a 9) b c e f g h i j k l m n)/\
 (∀ a:NB,a 10=false->∀ b c e f g h i j k l m n,d a b c e f g h i j k l m n->
 Al 39 n fun b n=>
 d (ah a 10) b c e f g h i j k l m n)/\
 (∀ a:NB,a 11=false->a 10=true->a 9=true->a 8=true->a 0=true->a 1=true->a 2=true->a 3=true->a 4=true->a 5=true->a 6=true->a 7=true->a 8=true->a 9=true->a 10=true->∀ b c e f g h i j k l m n,d a b c e f g h i j k l m n->
 St 39 b c n fun _ n=>
 d (ah a 11) b c e f g h i j k l m n)/\
 True)/\
 ∀ a:NB,a 11=true->a 10=true->a 9=true->a 8=true->a 7=true->a 6=true->a 5=true->a 4=true->a 3=true->a 2=true->a 1=true->a 0=true->∀ c e f g h i j k l m n o,d a c e f g h i j k l m n o->
 (∃ a:World->Prop,(
 Ca 47 [p0,(nn 20)] o fun b d=>
 Bb .eql 3 b (nn 0) d fun d e=>
 CondV d (
 RR (av 49 5 [(0,(.int .i64 (-1))),(1,(nn 0)),(2,(nn 1)),(3,(nn 20)),(4,(.int .i64 (-2)))]) e fun b d=>
 Ca 72 [p0,b] d fun b d=>
 Fd 39 c 1 d fun c d=>
 St 3 c b d fun _ b=>
 a b) (
 Bb .eql 3 b (nn 1) e fun d e=>
 CondV d (
 Ca 74 [p0,(nn 2)] e fun b d=>
 Ca 73 [p0,b] d fun b d=>
 Fd 39 c 0 d fun c d=>
 St 36 c b d fun _ b=>
 a b) (
 Bb .eql 3 b (nn 2) e fun d e=>
 CondV d (
 (∃ b:NB->QP7,b fF undef undef undef undef undef undef undef { e with drawn:=e.drawn+1 }/\(
 (∀ a:NB,a 0=false->∀ d e f g h i j k,b a d e f g h i j k->
 Fd 39 c 2 k fun c j=>
 b (ah a 0) d e f g h i c j)/\
 (∀ a:NB,a 1=false->a 0=true->∀ c d e f g h i j,b a c d e f g h i j->
 Ld 37 i j fun h j=>
 b (ah a 1) c d e f g h i j)/\
 (∀ a:NB,a 2=false->∀ c d e f g h i j,b a c d e f g h i j->
 Ca 70 [(.string ⟨#[116,114,117,101]⟩),(Value.slice none 0 0)] j fun g j=>
 b (ah a 2) c d e f g h i j)/\
 (∀ a:NB,a 3=false->a 2=true->∀ c d e f g h i j,b a c d e f g h i j->
 RR (bD 39 [(0,g),(1,(.int .i64 (-1)))]) j fun f j=>
 b (ah a 3) c d e f g h i j)/\
 (∀ a:NB,a 4=false->a 3=true->∀ c d e f g h i j,b a c d e f g h i j->
 RR (av 37 1 [(0,f)]) j fun e j=>
 b (ah a 4) c d e f g h i j)/\
 (∀ a:NB,a 5=false->a 1=true->a 4=true->a 2=true->∀ c d e f g h i j,b a c d e f g h i j->
 RR (bx .append #[37,37] 37 [false,false] [h,e]) j fun d j=>
 b (ah a 5) c d e f g h i j)/\
 (∀ a:NB,a 6=false->a 0=true->a 1=true->a 2=true->a 3=true->a 4=true->a 5=true->∀ d e f g h i j k,b a d e f g h i j k->
 Fd 39 c 2 k fun c d=>
 b (ah a 6) c e f g h i j d)/\
 (∀ a:NB,a 7=false->a 6=true->a 5=true->a 5=true->a 0=true->a 1=true->a 2=true->a 3=true->a 4=true->a 5=true->∀ c d e f g h i j,b a c d e f g h i j->
 St 37 c d j fun _ j=>
 b (ah a 7) c d e f g h i j)/\
 True)/\
 ∀ c:NB,c 7=true->c 6=true->c 5=true->c 4=true->c 3=true->c 2=true->c 1=true->c 0=true->∀ d e f g h i j k,b c d e f g h i j k->
 a k)) (
 Bb .eql 3 b (nn 3) e fun d e=>
 CondV d (
 Fd 39 c 2 e fun b d=>
 Ld 37 b d fun b d=>
 Ln 37 b d fun b d=>
 Bb .gtr 3 b (nn 0) d fun b d=>
 CondV b (
 Fd 39 c 2 d fun b d=>
 Ld 37 b d fun b d=>
 RR (sOp (.slice 37 (.const b) (some (.const (nn 1))) none none) 37) d fun b d=>
 Fd 39 c 2 d fun c d=>
 St 37 c b d fun _ b=>
 a b) (
 a d)) (
 Bb .eql 3 b (nn 4) e fun b d=>
 CondV b (
 Fd 39 c 2 d fun b d=>
 Ld 37 b d fun b d=>
 Ln 37 b d fun b d=>
 Bb .gtr 3 b (nn 0) d fun b d=>
 CondV b (
 (∃ b:NB->QP9,b fF undef undef undef undef undef undef undef undef undef { d with drawn:=d.drawn+1 }/\(
 (∀ a:NB,a 0=false->∀ d e f g h i j k l m,b a d e f g h i j k l m->
 Fd 39 c 2 m fun c l=>
 b (ah a 0) d e f g h i j k c l)/\
 (∀ a:NB,a 1=false->a 0=true->∀ c d e f g h i j k l,b a c d e f g h i j k l->
 Ld 37 k l fun j l=>
 b (ah a 1) c d e f g h i j k l)/\
 (∀ a:NB,a 2=false->∀ c d e f g h i j k l,b a c d e f g h i j k l->
 b (ah a 2) c d e f g h p0 j k l)/\
 (∀ a:NB,a 3=false->∀ d e f g h i j k l m,b a d e f g h i j k l m->
 Fd 39 c 2 m fun c i=>
 b (ah a 3) d e f g h c j k l i)/\
 (∀ a:NB,a 4=false->a 3=true->∀ c d e f g h i j k l,b a c d e f g h i j k l->
 Ld 37 h l fun g l=>
 b (ah a 4) c d e f g h i j k l)/\
 (∀ a:NB,a 5=false->a 4=true->∀ c d e f g h i j k l,b a c d e f g h i j k l->
 Ia 37 g (nn 0) l fun f l=>
 b (ah a 5) c d e f g h i j k l)/\
 (∀ a:NB,a 6=false->a 5=true->∀ c d e f g h i j k l,b a c d e f g h i j k l->
 Ld 39 f l fun e l=>
 b (ah a 6) c d e f g h i j k l)/\
 (∀ a:NB,a 7=false->a 2=true->a 6=true->∀ c d e f g h i j k l,b a c d e f g h i j k l->
 Ca 49 [i,e] l fun d l=>
 b (ah a 7) c d e f g h i j k l)/\
 (∀ a:NB,a 8=false->a 1=true->a 0=true->a 1=true->a 2=true->a 3=true->a 4=true->a 5=true->a 6=true->a 7=true->∀ c d e f g h i j k l,b a c d e f g h i j k l->
 Ia 37 j (nn 0) l fun c l=>
 b (ah a 8) c d e f g h i j k l)/\
 (∀ a:NB,a 9=false->a 8=true->a 7=true->a 7=true->a 0=true->a 1=true->a 2=true->a 3=true->a 4=true->a 5=true->a 6=true->a 7=true->∀ c d e f g h i j k l,b a c d e f g h i j k l->
 St 39 c d l fun _ l=>
 b (ah a 9) c d e f g h i j k l)/\
 True)/\
 ∀ c:NB,c 9=true->c 8=true->c 7=true->c 6=true->c 5=true->c 4=true->c 3=true->c 2=true->c 1=true->c 0=true->∀ d e f g h i j k l m,b c d e f g h i j k l m->
 a m)) (
 a d)) (
 a d))))))/\
 ∀ _ _ _ _ _ _ _ _ _ _ _ _ _ _ _ _ _ _ _ _ _ _ _ _ _ _ _ _ _ _ _ _ _ _ _ _ _ _ _ _ _ _ _ _ _ _ _ _ _:Value,∀ d:World,a d->
 Ld 39 c d fun a c=>
 St 39 b a c fun _ a=>
 (aO Tryz.prog 39 b a fun b=>R (.returned b) a)))
theorem p5 (h:mj p0 p1 w R):CC 49 #[p0,p1] w R:=
  aw (.seq none .leaf (.seq none .leaf (.seq (some []) .leaf .leaf))) [p0,p1] bo Tryz.func49 (by kernel_rfl) (by kernel_rfl) h

def jY:V1:=fun p0 w R=>
 Bx 56 p0 w fun a b=>
 (∃ (c:QP1) (d:QN1),c (nn 0) b/\
 ∀ b _ _ _ _ _ _ _ _ _ _ _ _ _ _ _ _ _ _ _:Value,∀ e:World,c b e->
 (∃ f:QP1,(
 Fd 56 a 1 e fun a c=>
 Ld 34 a c fun a c=>
 Ln 34 a c fun a c=>
 Ba .lss 3 b a c fun a c=>
 ag a true (
 Bb .leq 3 b (nn 6) c fun b c=>
 Pk a b (.bool false) c fun a b=>
 f a b) (
 Pk a undef (.bool false) c fun a b=>
 f a b))/\
 ∀ g _ _ _ _ _ _ _ _:Value,∀ h:World,f g h->
 CondV g (
 Fd 56 a 1 h fun a f=>
 Ld 34 a f fun a f=>
 Ia 34 a b f fun a f=>
 Ld 36 a f fun a f=>
 Ca 79 [a] f fun a f=>
 Nt a f fun a f=>
 CondV a (
 R (.returned (.bool false)) f) (
 Bb .add 3 b (nn 1) f fun a f=>
 c a f/\d a f<d b e)) (
 Fd 56 a 1 h fun b c=>
 Ld 34 b c fun b c=>
 Ln 34 b c fun b c=>
 Bb .leq 3 b (nn 6) c fun b c=>
 ((fun d:VW=>ag b true (
 Fd 56 a 0 c fun a c=>
 Ld 36 a c fun a c=>
 Ca 80 [a] c fun a c=>
 Pk b a (.bool false) c fun a b=>d a b) (
 Pk b undef (.bool false) c fun a b=>d a b)) fun b c=>
 ag b true (
 Fd 56 a 0 c fun a c=>
 Ld 36 a c fun a c=>
 Ca 81 [a] c fun a c=>
 Pk b a (.bool false) c fun a b=>
 R (.returned a) b) (
 Pk b undef (.bool false) c fun a b=>
 R (.returned a) b)))))
theorem n3 (h:jY p0 w R):CC 54 #[p0] w R:=
  aw (.seq none .leaf (.seq none (.seq none .leaf (.one (.loop [3] (.seq none (.seq (some [12]) .leaf .leaf) .leaf)))) .leaf)) [p0] bo Tryz.func54 (by kernel_rfl) (by kernel_rfl) h

def o5:V2:=fun p0 p1 w R=>
 Bx 39 p0 w fun a b=>
 (∃ c:QP1,(
 Bb .lss 3 p1 (nn 1) b fun b d=>
 ((fun c:VW=>ag b false (
 Fd 39 a 0 d fun a d=>
 Ld 36 a d fun a d=>
 Ca 79 [a] d fun a d=>
 Nt a d fun a d=>
 Pk b (.bool true) a d fun a b=>c a b) (
 Pk b (.bool true) undef d fun a b=>c a b)) fun b d=>
 ((fun c:VW=>ag b false (
 Fd 39 a 1 d fun a d=>
 Ld 3 a d fun a d=>
 Bb .lss 3 a (.int .i64 (-1)) d fun a d=>
 Pk b (.bool true) a d fun a b=>c a b) (
 Pk b (.bool true) undef d fun a b=>c a b)) fun b d=>
 ((fun c:VW=>ag b false (
 Fd 39 a 1 d fun a d=>
 Ld 3 a d fun a d=>
 Bb .geq 3 a (nn 20) d fun a d=>
 Pk b (.bool true) a d fun a b=>c a b) (
 Pk b (.bool true) undef d fun a b=>c a b)) fun b d=>
 ag b false (
 Fd 39 a 2 d fun a d=>
 Ld 37 a d fun a d=>
 Ln 37 a d fun a d=>
 Bb .gtr 3 a (nn 6) d fun a d=>
 Pk b (.bool true) a d fun a b=>
 c a b) (
 Pk b (.bool true) undef d fun a b=>
 c a b)))))/\
 ∀ b _ _ _ _ _ _ _ _ _ _ _ _ _ _ _ _ _ _ _ _ _ _ _:Value,∀ d:World,c b d->
 CondV b (
 R (.returned (.bool false)) d) (
 (∃ (b:QP1) (c:QN1),b (nn 0) d/\
 ∀ d _ _ _ _ _ _ _ _ _ _ _ _ _ _ _ _ _:Value,∀ e:World,b d e->
 Fd 39 a 2 e fun f g=>
 Ld 37 f g fun f g=>
 Ln 37 f g fun f g=>
 Ba .lss 3 d f g fun f g=>
 CondV f (
 Fd 39 a 2 g fun a f=>
 Ld 37 a f fun a f=>
 Ia 37 a d f fun a f=>
 Ld 39 a f fun a f=>
 Bb .sub 3 p1 (nn 1) f fun f g=>
 Ca 55 [a,f] g fun a f=>
 Nt a f fun a f=>
 CondV a (
 R (.returned (.bool false)) f) (
 Bb .add 3 d (nn 1) f fun a f=>
 b a f/\c a f<c d e)) (
 R (.returned (.bool true)) g))))
theorem sU (h:o5 p0 p1 w R):CC 55 #[p0,p1] w R:=
  aw (.seq none .leaf (.seq none (.seq (some [29]) .leaf .leaf) (.seq none (.seq none .leaf (.one (.loop [5] .leaf))) .leaf))) [p0,p1] bo Tryz.func55 (by kernel_rfl) (by kernel_rfl) h

def sj:V1:=fun p0 w R=>
 Ln 23 p0 w fun a b=>
 RR (sOp (.makeSlice 34 (.const a) (.const a)) 34) b fun a b=>
 (∃ (c:QP1) (d:QN1),c (nn 0) b/\
 ∀ b _ _ _ _ _ _ _ _ _ _ _ _ _ _:Value,∀ e:World,c b e->
 Ln 23 p0 e fun f g=>
 Ba .lss 3 b f g fun f g=>
 CondV f (
 Ia 23 p0 b g fun f g=>
 Ld 25 f g fun f g=>
 Ca 34 [f] g fun f g=>
 Ia 34 a b g fun a g=>
 St 36 a f g fun _ a=>
 Bb .add 3 b (nn 1) a fun a f=>
 c a f/\d a f<d b e) (
 R (.returned a) g))
theorem vx (h:sj p0 w R):CC 57 #[p0] w R:=
  aw (.seq none .leaf (.seq none .leaf (.seq none (.seq none .leaf (.one (.loop [4] .leaf))) .leaf))) [p0] bo Tryz.func57 (by kernel_rfl) (by kernel_rfl) h

def qS:V1:=fun p0 w R=>
 Bx 36 p0 w fun a b=>
 Fd 36 a 0 b fun b c=>
 Ld 3 b c fun b c=>
 Bb .eql 3 b (nn 3) c fun b c=>
 ag b true (
 Fd 36 a 2 c fun c d=>
 Ld 9 c d fun c d=>
 Fd 36 a 3 d fun a d=>
 Ld 34 a d fun a d=>
 Ln 34 a d fun a d=>
 Ca 89 [c,a] d fun a c=>
 Pk b a (.bool false) c fun a b=>
 R (.returned a) b) (
 Pk b undef (.bool false) c fun a b=>
 R (.returned a) b)
theorem wl (h:qS p0 w R):CC 59 #[p0] w R:=
  aw .leaf [p0] bo Tryz.func59 (by kernel_rfl) (by kernel_rfl) h

def xS:V1:=fun p0 w R=>
 Bx 36 p0 w fun a b=>
 Ld 36 a b fun b c=>
 Ca 91 [b] c fun b c=>
 ag b true (
 Fd 36 a 2 c fun a c=>
 Ld 9 a c fun a c=>
 Bb .eql 9 a (.string ⟨#[33]⟩) c fun a c=>
 Pk b a (.bool false) c fun a b=>
 R (.returned a) b) (
 Pk b undef (.bool false) c fun a b=>
 R (.returned a) b)
theorem As (h:xS p0 w R):CC 61 #[p0] w R:=
  aw .leaf [p0] bo Tryz.func61 (by kernel_rfl) (by kernel_rfl) h

def mE:V1:=fun p0 w R=>
 Bx 36 p0 w fun a b=>
 Ld 36 a b fun b c=>
 Ca 76 [b] c fun b c=>
 ag b true (
 Ld 36 a c fun c d=>
 Ca 77 [c] d fun c d=>
 ag c false (
 Ld 36 a d fun d e=>
 Ca 59 [d] e fun d e=>
 ag b true (
 Pk c (.bool true) d e fun c d=>
 ag c false (
 Ld 36 a d fun a d=>
 Ca 61 [a] d fun a d=>
 ag b true (
 Pk c (.bool true) a d fun a c=>
 Pk b a (.bool false) c fun a b=>
 R (.returned a) b) (
 Pk b undef (.bool false) d fun a b=>
 R (.returned a) b)) (
 ag b true (
 Pk c (.bool true) undef d fun a c=>
 Pk b a (.bool false) c fun a b=>
 R (.returned a) b) (
 Pk b undef (.bool false) d fun a b=>
 R (.returned a) b))) (
 ag undef false (
 Ld 36 a e fun a c=>
 Ca 61 [a] c fun a c=>
 ag b true (
 Pk undef (.bool true) a c fun a c=>
 Pk b a (.bool false) c fun a b=>
 R (.returned a) b) (
 Pk b undef (.bool false) c fun a b=>
 R (.returned a) b)) (
 ag b true (
 Pk undef (.bool true) undef e fun a c=>
 Pk b a (.bool false) c fun a b=>
 R (.returned a) b) (
 Pk b undef (.bool false) e fun a b=>
 R (.returned a) b)))) (
 ag b true (
 Pk c (.bool true) undef d fun c d=>
 ag c false (
 Ld 36 a d fun a d=>
 Ca 61 [a] d fun a d=>
 ag b true (
 Pk c (.bool true) a d fun a c=>
 Pk b a (.bool false) c fun a b=>
 R (.returned a) b) (
 Pk b undef (.bool false) d fun a b=>
 R (.returned a) b)) (
 ag b true (
 Pk c (.bool true) undef d fun a c=>
 Pk b a (.bool false) c fun a b=>
 R (.returned a) b) (
 Pk b undef (.bool false) d fun a b=>
 R (.returned a) b))) (
 ag undef false (
 Ld 36 a d fun a c=>
 Ca 61 [a] c fun a c=>
 ag b true (
 Pk undef (.bool true) a c fun a c=>
 Pk b a (.bool false) c fun a b=>
 R (.returned a) b) (
 Pk b undef (.bool false) c fun a b=>
 R (.returned a) b)) (
 ag b true (
 Pk undef (.bool true) undef d fun a c=>
 Pk b a (.bool false) c fun a b=>
 R (.returned a) b) (
 Pk b undef (.bool false) d fun a b=>
 R (.returned a) b))))) (
 ag undef false (
 Ld 36 a c fun c d=>
 Ca 59 [c] d fun c d=>
 ag b true (
 Pk undef (.bool true) c d fun c d=>
 ag c false (
 Ld 36 a d fun a d=>
 Ca 61 [a] d fun a d=>
 ag b true (
 Pk c (.bool true) a d fun a c=>
 Pk b a (.bool false) c fun a b=>
 R (.returned a) b) (
 Pk b undef (.bool false) d fun a b=>
 R (.returned a) b)) (
 ag b true (
 Pk c (.bool true) undef d fun a c=>
 Pk b a (.bool false) c fun a b=>
 R (.returned a) b) (
 Pk b undef (.bool false) d fun a b=>
 R (.returned a) b))) (
 ag undef false (
 Ld 36 a d fun a c=>
 Ca 61 [a] c fun a c=>
 ag b true (
 Pk undef (.bool true) a c fun a c=>
 Pk b a (.bool false) c fun a b=>
 R (.returned a) b) (
 Pk b undef (.bool false) c fun a b=>
 R (.returned a) b)) (
 ag b true (
 Pk undef (.bool true) undef d fun a c=>
 Pk b a (.bool false) c fun a b=>
 R (.returned a) b) (
 Pk b undef (.bool false) d fun a b=>
 R (.returned a) b)))) (
 ag b true (
 Pk undef (.bool true) undef c fun c d=>
 ag c false (
 Ld 36 a d fun a d=>
 Ca 61 [a] d fun a d=>
 ag b true (
 Pk c (.bool true) a d fun a c=>
 Pk b a (.bool false) c fun a b=>
 R (.returned a) b) (
 Pk b undef (.bool false) d fun a b=>
 R (.returned a) b)) (
 ag b true (
 Pk c (.bool true) undef d fun a c=>
 Pk b a (.bool false) c fun a b=>
 R (.returned a) b) (
 Pk b undef (.bool false) d fun a b=>
 R (.returned a) b))) (
 ag undef false (
 Ld 36 a c fun a c=>
 Ca 61 [a] c fun a c=>
 ag b true (
 Pk undef (.bool true) a c fun a c=>
 Pk b a (.bool false) c fun a b=>
 R (.returned a) b) (
 Pk b undef (.bool false) c fun a b=>
 R (.returned a) b)) (
 ag b true (
 Pk undef (.bool true) undef c fun a c=>
 Pk b a (.bool false) c fun a b=>
 R (.returned a) b) (
 Pk b undef (.bool false) c fun a b=>
 R (.returned a) b)))))
theorem rK (h:mE p0 w R):CC 63 #[p0] w R:=
  aw .leaf [p0] bo Tryz.func63 (by kernel_rfl) (by kernel_rfl) h

def vd:V3:=fun p0 p1 p2 w R=>
 Ba .leq 3 p1 p0 w fun a b=>
 ag a true (
 Ba .leq 3 p0 p2 b fun b c=>
 Pk a b (.bool false) c fun a b=>
 R (.returned a) b) (
 Pk a undef (.bool false) b fun a b=>
 R (.returned a) b)
theorem y0 (h:vd p0 p1 p2 w R):CC 64 #[p0,p1,p2] w R:=
  aw .leaf [p0,p1,p2] bo Tryz.func64 (by kernel_rfl) (by kernel_rfl) h

def gd:V2:=fun p0 p1 w R=>
 Ca 92 [p0,p1] w fun a b=>
 Bb .geq 3 a (nn 0) b fun a b=>
 R (.returned a) b
theorem i8 (h:gd p0 p1 w R):CC 65 #[p0,p1] w R:=
  aw .leaf [p0,p1] bo Tryz.func65 (by kernel_rfl) (by kernel_rfl) h

def j3:V3:=fun p0 p1 p2 w R=>
 Bx 39 p0 w fun a b=>
 Ld 39 a b fun a b=>
 Ld 3 p1 b fun b c=>
 Bb .add 3 b (nn 1) c fun b c=>
 Ld 70 p2 c fun c d=>
 Ca 41 [a,b,c] d fun a b=>
 Nt a b fun a b=>
 R (.returned a) b
theorem nW (h:j3 p0 p1 p2 w R):CC 66 #[p0,p1,p2] w R:=
  aw .leaf [p0,p1,p2] bo Tryz.func66 (by kernel_rfl) (by kernel_rfl) h

def sz:V1:=fun p0 w R=>
 Al 36 w fun a b=>
 Ca 47 [p0,(nn 4)] b fun b c=>
 Bb .gtr 3 b (nn 0) c fun b c=>
 CondV b (
 RR (av 49 7 [(0,(nn 0)),(1,(nn 1)),(2,(nn 2)),(3,(nn 3)),(4,(nn 5)),(5,(nn 9)),(6,(nn 0))]) c fun b c=>
 Ca 72 [p0,b] c fun b c=>
 RR (av 120 10 [(0,(.string ⟨#[97,112,112,40,65,44,66,44,91,49,44,50,93,41]⟩)),(1,(.string ⟨#[109,101,109,40,65,44,91,97,44,98,44,99,93,41]⟩)),(2,(.string ⟨#[113,40,65,41]⟩)),(3,(.string ⟨#[108,101,110,40,91,97,44,98,93,44,65,41]⟩)),(4,(.string ⟨#[]⟩)),(5,(.string ⟨#[116,40,97,44,65,41]⟩)),(6,(.string ⟨#[]⟩)),(7,(.string ⟨#[]⟩)),(8,(.string ⟨#[]⟩)),(9,(.string ⟨#[114,101,118,40,91,49,44,50,44,51,93,44,91,93,44,65,41]⟩))]) c fun c d=>
 Ca 94 [] d fun d e=>
 Ia 120 d b e fun d e=>
 Ld 9 d e fun d e=>
 Ca 93 [d] e fun d e=>
 Ex d 0 32 e fun e f=>
 Ex d 1 4 f fun _ d=>
 Ia 120 c b d fun b c=>
 Ld 9 b c fun b c=>
 Ca 95 [b] c fun b c=>
 Ex b 0 36 c fun c d=>
 Ex b 1 4 d fun _ b=>
 Al 36 b fun b d=>
 St 36 b c d fun _ c=>
 (∃ d:NB->QP3,d fF (Value.slice none 0 0) undef undef { c with drawn:=c.drawn+1 }/\(
 (∀ a:NB,a 0=false->∀ b c f g,d a b c f g->
 d (ah a 0) b c e g)/\
 (∀ a:NB,a 1=false->∀ c e f g,d a c e f g->
 Ld 36 b g fun b e=>
 d (ah a 1) c b f e)/\
 (∀ a:NB,a 2=false->a 0=true->a 0=true->∀ b c e f,d a b c e f->
 d (ah a 2) e c e f)/\
 (∀ b:NB,b 3=false->b 1=true->b 2=true->b 0=true->b 1=true->b 2=true->∀ c e f g,d b c e f g->
 St 36 a e g fun _ a=>
 d (ah b 3) c e f a)/\
 True)/\
 ∀ b:NB,b 3=true->b 2=true->b 1=true->b 0=true->∀ c e f g,d b c e f g->
 (aO Tryz.prog 36 a g fun a=>R (.returned (.tuple #[c,a])) g))) (
 Ca 96 [p0] c fun b c=>
 Ex b 0 32 c fun c d=>
 Ex b 1 34 d fun b d=>
 (∃ e:NB->QP5,e fF (Value.slice none 0 0) undef undef undef undef { d with drawn:=d.drawn+1 }/\(
 (∀ a:NB,a 0=false->∀ b d f g h i,e a b d f g h i->
 e (ah a 0) b d f g c i)/\
 (∀ a:NB,a 1=false->∀ c d f g h i,e a c d f g h i->
 e (ah a 1) c d f b h i)/\
 (∀ a:NB,a 2=false->a 1=true->∀ b c d f g h,e a b c d f g h->
 Ia 34 f (nn 0) h fun d h=>
 e (ah a 2) b c d f g h)/\
 (∀ a:NB,a 3=false->a 2=true->∀ b c d f g h,e a b c d f g h->
 Ld 36 d h fun c h=>
 e (ah a 3) b c d f g h)/\
 (∀ a:NB,a 4=false->a 0=true->a 0=true->∀ b c d f g h,e a b c d f g h->
 e (ah a 4) g c d f g h)/\
 (∀ b:NB,b 5=false->b 3=true->b 4=true->b 0=true->b 1=true->b 2=true->b 3=true->b 4=true->∀ c d f g h i,e b c d f g h i->
 St 36 a d i fun _ a=>
 e (ah b 5) c d f g h a)/\
 True)/\
 ∀ b:NB,b 5=true->b 4=true->b 3=true->b 2=true->b 1=true->b 0=true->∀ c d f g h i,e b c d f g h i->
 (aO Tryz.prog 36 a i fun a=>R (.returned (.tuple #[c,a])) i)))
theorem vw (h:sz p0 w R):CC 67 #[p0] w R:=
  aw .leaf [p0] bo Tryz.func67 (by kernel_rfl) (by kernel_rfl) h

def qq:V3:=fun p0 p1 p2 w R=>
 Bx 36 p1 w fun a b=>
 Al 39 b fun b c=>
 Ld 36 a c fun a c=>
 RR (av 34 1 [(0,a)]) c fun a c=>
 Ca 97 [a] c fun a c=>
 RR (bD 135 [(0,a)]) c fun a c=>
 Al 135 c fun c d=>
 St 135 c a d fun _ a=>
 (∃ (d:QP1) (e:QN1),d p2 a/\
 ∀ _ _ _ _ _ _ _ _ _ _ _ _ _ _ _ a _ _ _ _ _ _ _ _ _ _ _ f _ _ _ _ _ _ _ _ _ _ _:Value,∀ g:World,d f g->
 (∃ h:QP1,(
 Bb .gtr 3 f (nn 0) g fun a b=>
 ag a true (
 Fd 135 c 0 b fun b c=>
 Fd 130 b 0 c fun b c=>
 Ld 127 b c fun b c=>
 Ln 127 b c fun b c=>
 Bb .gtr 3 b (nn 0) c fun b c=>
 Pk a b (.bool false) c fun a b=>
 h a b) (
 Pk a undef (.bool false) b fun a b=>
 h a b))/\
 ∀ i _ _ _ _ _ _ _ _:Value,∀ j:World,h i j->
 CondV i (
 Bb .sub 3 f (nn 1) j fun a h=>
 Ld 135 c h fun h i=>
 Ca 98 [p0,h] i fun h i=>
 Ex h 0 135 i fun i j=>
 Ex h 1 3 j fun h j=>
 Al 135 j fun j k=>
 St 135 j i k fun _ i=>
 Bb .eql 3 h (nn 0) i fun i k=>
 CondV i (
 RR (bD 39 []) k fun a c=>
 St 39 b a c fun _ a=>
 (aO Tryz.prog 39 b a fun b=>R (.returned (.tuple #[b,(.bool false)])) a)) (
 (∃ i:World->Prop,(
 Bb .eql 3 h (.int .i64 (-2)) k fun a c=>
 CondV a (
 Ld 135 j c fun a c=>
 Ca 99 [p0,a] c fun a c=>
 Ex a 0 135 c fun c d=>
 Ex a 1 4 d fun a d=>
 Al 135 d fun d e=>
 St 135 d c e fun _ c=>
 Nt a c fun a c=>
 CondV a (
 RR (bD 39 []) c fun a c=>
 St 39 b a c fun _ a=>
 (aO Tryz.prog 39 b a fun b=>R (.returned (.tuple #[b,(.bool false)])) a)) (
 Ld 135 d c fun a b=>
 St 135 j a b fun _ a=>
 i a)) (
 i c))/\
 ∀ _ _ _ _ _ _ _ _ _ _ _ _ _ _ _:Value,∀ b:World,i b->
 Ld 135 j b fun b h=>
 St 135 c b h fun _ b=>
 d a b/\e a b<e f g))) (
 Fd 135 c 0 j fun d e=>
 Fd 130 d 0 e fun d e=>
 Ld 127 d e fun d e=>
 Ln 127 d e fun d e=>
 Bb .gtr 3 d (nn 0) e fun d e=>
 CondV d (
 RR (bD 39 []) e fun a c=>
 St 39 b a c fun _ a=>
 (aO Tryz.prog 39 b a fun b=>R (.returned (.tuple #[b,(.bool false)])) a)) (
 Fd 135 c 1 e fun d e=>
 Ld 132 d e fun d e=>
 Fd 135 c 0 e fun c e=>
 Fd 130 c 1 e fun c e=>
 Ld 34 c e fun c e=>
 Ca 100 [d,(nn 0),c] e fun c d=>
 Ex c 0 39 d fun d e=>
 Ex c 1 3 e fun _ e=>
 Ex c 2 4 e fun c e=>
 Al 39 e fun e f=>
 St 39 e d f fun _ d=>
 Nt c d fun c d=>
 CondV c (
 RR (bD 39 []) d fun a c=>
 St 39 b a c fun _ a=>
 (aO Tryz.prog 39 b a fun b=>R (.returned (.tuple #[b,(.bool false)])) a)) (
 (∃ c:NB->QP4,c fF undef undef undef undef { d with drawn:=d.drawn+1 }/\(
 (∀ a:NB,a 0=false->∀ b d f g h,c a b d f g h->
 Ld 39 e h fun e g=>
 c (ah a 0) b d f e g)/\
 (∀ a:NB,a 1=false->∀ b d f g h,c a b d f g h->
 Ld 39 e h fun e f=>
 c (ah a 1) b d e g f)/\
 (∀ a:NB,a 2=false->a 1=true->∀ b d e f g,c a b d e f g->
 Ca 102 [(Value.slice none 0 0),e] g fun d g=>
 c (ah a 2) b d e f g)/\
 (∀ a:NB,a 3=false->a 0=true->a 2=true->a 2=true->∀ b d e f g,c a b d e f g->
 Ca 101 [f,d] g fun b g=>
 c (ah a 3) b d e f g)/\
 (∀ a:NB,a 4=false->a 3=true->a 3=true->a 0=true->a 1=true->a 2=true->a 3=true->∀ b d f g h,c a b d f g h->
 St 39 e b h fun _ e=>
 c (ah a 4) b d f g e)/\
 True)/\
 ∀ d:NB,d 4=true->d 3=true->d 2=true->d 1=true->d 0=true->∀ f g h i j,c d f g h i j->
 (∃ c:NB->QP4,c fF a undef undef undef { j with drawn:=j.drawn+1 }/\(
 (∀ a:NB,a 0=false->∀ b d f g h,c a b d f g h->
 Ld 39 e h fun e g=>
 c (ah a 0) b d f e g)/\
 (∀ a:NB,a 1=false->∀ b d f g h,c a b d f g h->
 Ld 39 e h fun e f=>
 c (ah a 1) b d e g f)/\
 (∀ a:NB,a 2=false->a 1=true->∀ b d e f g,c a b d e f g->
 Ca 31 [e] g fun d g=>
 c (ah a 2) b d e f g)/\
 (∀ a:NB,a 3=false->a 0=true->a 2=true->a 0=true->∀ d e f g h,c a d e f g h->
 St 39 b g h fun _ b=>
 c (ah a 3) d e f g b)/\
 (∀ a:NB,a 4=false->a 2=true->a 3=true->a 0=true->a 1=true->a 2=true->a 3=true->∀ b d e f g,c a b d e f g->
 c (ah a 4) d d e f g)/\
 True)/\
 ∀ a:NB,a 4=true->a 3=true->a 2=true->a 1=true->a 0=true->∀ d e f g h,c a d e f g h->
 (aO Tryz.prog 39 b h fun a=>R (.returned (.tuple #[a,d])) h))))))))
theorem vZ (h:qq p0 p1 p2 w R):CC 68 #[p0,p1,p2] w R:=
  aw (.seq none .leaf (.seq none .leaf (.seq none (.one (.loop [2] (.seq none (.seq (some [28]) .leaf .leaf) (.one (.seq none .leaf (.seq none .leaf (.seq none .leaf (.seq (some []) .leaf .leaf)))))))) .leaf))) [p0,p1,p2] bo Tryz.func68 (by kernel_rfl) (by kernel_rfl) h

def oi:V2:=fun p0 p1 w R=>
 Al 36 w fun a b=>
 RR (av 34 0 []) b fun b c=>
 RR (bx .append #[34,34] 34 [false,false] [b,p1]) c fun b c=>
 RR (bD 36 [(0,(nn 3)),(2,p0),(3,b)]) c fun b c=>
 St 36 a b c fun _ b=>
 (aO Tryz.prog 36 a b fun a=>R (.returned a) b)
theorem sK (h:oi p0 p1 w R):CC 70 #[p0,p1] w R:=
  aw .leaf [p0,p1] bo Tryz.func70 (by kernel_rfl) (by kernel_rfl) h

def mi:V1:=fun p0 w R=>
 Bx 36 p0 w fun a b=>
 Al 36 b fun b c=>
 Fd 36 a 0 c fun c d=>
 Ld 3 c d fun c d=>
 Fd 36 a 1 d fun d e=>
 Ld 3 d e fun d e=>
 Fd 36 a 2 e fun e f=>
 Ld 9 e f fun e f=>
 RR (bD 36 [(0,c),(1,d),(2,e)]) f fun c d=>
 Al 36 d fun d e=>
 St 36 d c e fun _ c=>
 (∃ (e:QP1) (f:QN1),e (nn 0) c/\
 ∀ c _ _ g h i j k l m n o p q _ _ _ _ _:Value,∀ r:World,e c r->
 Fd 36 a 3 r fun s t=>
 Ld 34 s t fun s t=>
 Ln 34 s t fun s t=>
 Ba .lss 3 c s t fun s t=>
 CondV s (
 (∃ b:NB->LK,b fF g h i j k l m n o p q { t with drawn:=t.drawn+1 }/\(
 (∀ a:NB,a 0=false->∀ c e f g h i j k l m n o,b a c e f g h i j k l m n o->
 Fd 36 d 3 o fun d n=>
 b (ah a 0) c e f g h i j k l m d n)/\
 (∀ a:NB,a 1=false->a 0=true->∀ c d e f g h i j k l m n,b a c d e f g h i j k l m n->
 Ld 34 m n fun l n=>
 b (ah a 1) c d e f g h i j k l m n)/\
 (∀ c:NB,c 2=false->∀ d e f g h i j k l m n o,b c d e f g h i j k l m n o->
 Fd 36 a 3 o fun a l=>
 b (ah c 2) d e f g h i j k a m n l)/\
 (∀ a:NB,a 3=false->a 2=true->∀ c d e f g h i j k l m n,b a c d e f g h i j k l m n->
 Ld 34 k n fun j n=>
 b (ah a 3) c d e f g h i j k l m n)/\
 (∀ a:NB,a 4=false->∀ d e f g h i j k l m n o,b a d e f g h i j k l m n o->
 b (ah a 4) d e f g h i c k l m n o)/\
 (∀ a:NB,a 5=false->a 3=true->a 4=true->∀ c d e f g h i j k l m n,b a c d e f g h i j k l m n->
 Ia 34 j i n fun h n=>
 b (ah a 5) c d e f g h i j k l m n)/\
 (∀ a:NB,a 6=false->a 5=true->∀ c d e f g h i j k l m n,b a c d e f g h i j k l m n->
 Ld 36 h n fun g n=>
 b (ah a 6) c d e f g h i j k l m n)/\
 (∀ a:NB,a 7=false->a 6=true->∀ c d e f g h i j k l m n,b a c d e f g h i j k l m n->
 Ca 71 [g] n fun f n=>
 b (ah a 7) c d e f g h i j k l m n)/\
 (∀ a:NB,a 8=false->a 7=true->∀ c d e f g h i j k l m n,b a c d e f g h i j k l m n->
 RR (av 34 1 [(0,f)]) n fun e n=>
 b (ah a 8) c d e f g h i j k l m n)/\
 (∀ a:NB,a 9=false->a 1=true->a 8=true->a 7=true->∀ c d e f g h i j k l m n,b a c d e f g h i j k l m n->
 RR (bx .append #[34,34] 34 [false,false] [l,e]) n fun d n=>
 b (ah a 9) c d e f g h i j k l m n)/\
 (∀ a:NB,a 10=false->a 0=true->a 1=true->a 2=true->a 3=true->a 4=true->a 5=true->a 6=true->a 7=true->a 8=true->a 9=true->∀ c e f g h i j k l m n o,b a c e f g h i j k l m n o->
 Fd 36 d 3 o fun c d=>
 b (ah a 10) c e f g h i j k l m n d)/\
 (∀ a:NB,a 11=false->a 10=true->a 9=true->a 9=true->a 0=true->a 1=true->a 2=true->a 3=true->a 4=true->a 5=true->a 6=true->a 7=true->a 8=true->a 9=true->∀ c d e f g h i j k l m n,b a c d e f g h i j k l m n->
 St 34 c d n fun _ n=>
 b (ah a 11) c d e f g h i j k l m n)/\
 True)/\
 ∀ a:NB,a 11=true->a 10=true->a 9=true->a 8=true->a 7=true->a 6=true->a 5=true->a 4=true->a 3=true->a 2=true->a 1=true->a 0=true->∀ d g h i j k l m n o p q,b a d g h i j k l m n o p q->
 Bb .add 3 c (nn 1) q fun a b=>
 e a b/\f a b<f c r)) (
 Ld 36 d t fun a c=>
 St 36 b a c fun _ a=>
 (aO Tryz.prog 36 b a fun b=>R (.returned b) a)))
theorem mL (h:mi p0 w R):CC 71 #[p0] w R:=
  aw (.seq none .leaf (.seq none .leaf (.seq none (.seq none .leaf (.one (.loop [4] .leaf))) .leaf))) [p0] bo Tryz.func71 (by kernel_rfl) (by kernel_rfl) h

def mN:V2:=fun p0 p1 w R=>
 Ln 49 p1 w fun a b=>
 Ca 47 [p0,a] b fun a b=>
 Ia 49 p1 a b fun a b=>
 Ld 3 a b fun a b=>
 R (.returned a) b
theorem rM (h:mN p0 p1 w R):CC 72 #[p0,p1] w R:=
  aw .leaf [p0,p1] bo Tryz.func72 (by kernel_rfl) (by kernel_rfl) h

def oD:V2:=fun p0 p1 w R=>
 Bx 36 p1 w fun a b=>
 Al 36 b fun b c=>
 Ld 36 a c fun a c=>
 Ca 71 [a] c fun a c=>
 Al 36 c fun c d=>
 St 36 c a d fun _ a=>
 (∃ d:World->Prop,(
 Ca 47 [p0,(nn 50)] a fun a b=>
 Bb .eql 3 a (nn 0) b fun b e=>
 CondV b (
 RR (av 49 5 [(0,(nn 0)),(1,(nn 4)),(2,(nn 1)),(3,(nn 2)),(4,(nn 3))]) e fun a b=>
 Ca 72 [p0,a] b fun a b=>
 Fd 36 c 0 b fun b c=>
 St 3 b a c fun _ a=>
 d a) (
 Bb .eql 3 a (nn 1) e fun b e=>
 CondV b (
 RR (av 49 5 [(0,(nn 26)),(1,(nn 1000)),(2,(.int .i64 (-1000))),(3,(.int .i64 (-1))),(4,(nn 1))]) e fun a b=>
 Ca 72 [p0,a] b fun a b=>
 Fd 36 c 1 b fun b c=>
 St 3 b a c fun _ a=>
 d a) (
 Bb .eql 3 a (nn 2) e fun b e=>
 CondV b (
 RR (av 120 5 [(0,(.string ⟨#[]⟩)),(1,(.string ⟨#[88]⟩)),(2,(.string ⟨#[116,111,111,108,111,110,103]⟩)),(3,(.string ⟨#[195,169]⟩)),(4,(.string ⟨#[97]⟩))]) e fun a b=>
 Ca 105 [p0,a] b fun a b=>
 Fd 36 c 2 b fun b c=>
 St 9 b a c fun _ a=>
 d a) (
 Bb .eql 3 a (nn 3) e fun b e=>
 CondV b (
 (∃ (a:World->Prop) (b:World->Nat),a e/\
 ∀ e f g h i j _ _ _ _:Value,∀ k:World,a k->
 Fd 36 c 3 k fun l m=>
 Ld 34 l m fun l m=>
 Ln 34 l m fun l m=>
 Bb .leq 3 l (nn 4) m fun l m=>
 CondV l (
 (∃ d:NB->QP6,d fF e f g h i j { m with drawn:=m.drawn+1 }/\(
 (∀ a:NB,a 0=false->∀ b e f g h i j,d a b e f g h i j->
 Fd 36 c 3 j fun c i=>
 d (ah a 0) b e f g h c i)/\
 (∀ a:NB,a 1=false->a 0=true->∀ b c e f g h i,d a b c e f g h i->
 Ld 34 h i fun g i=>
 d (ah a 1) b c e f g h i)/\
 (∀ a:NB,a 2=false->∀ b c e f g h i,d a b c e f g h i->
 Ca 106 [(nn 1)] i fun f i=>
 d (ah a 2) b c e f g h i)/\
 (∀ a:NB,a 3=false->a 2=true->∀ b c e f g h i,d a b c e f g h i->
 RR (av 34 1 [(0,f)]) i fun e i=>
 d (ah a 3) b c e f g h i)/\
 (∀ a:NB,a 4=false->a 1=true->a 3=true->a 2=true->∀ b c e f g h i,d a b c e f g h i->
 RR (bx .append #[34,34] 34 [false,false] [g,e]) i fun c i=>
 d (ah a 4) b c e f g h i)/\
 (∀ a:NB,a 5=false->a 0=true->a 1=true->a 2=true->a 3=true->a 4=true->∀ b e f g h i j,d a b e f g h i j->
 Fd 36 c 3 j fun b c=>
 d (ah a 5) b e f g h i c)/\
 (∀ a:NB,a 6=false->a 5=true->a 4=true->a 4=true->a 0=true->a 1=true->a 2=true->a 3=true->a 4=true->∀ b c e f g h i,d a b c e f g h i->
 St 34 b c i fun _ i=>
 d (ah a 6) b c e f g h i)/\
 True)/\
 ∀ c:NB,c 6=true->c 5=true->c 4=true->c 3=true->c 2=true->c 1=true->c 0=true->∀ e f g h i j l,d c e f g h i j l->
 a l/\b l<b k)) (
 d m))) (
 Bb .eql 3 a (nn 4) e fun a b=>
 CondV a (
 (∃ (a:QP1) (e:QN1),a (nn 0) b/\
 ∀ b _ _ _ _ _ _ _:Value,∀ f:World,a b f->
 Bb .lss 3 b (nn 30) f fun g h=>
 CondV g (
 Ld 36 c h fun d g=>
 RR (av 34 1 [(0,d)]) g fun d g=>
 Ca 70 [(.string ⟨#[115]⟩),d] g fun d g=>
 St 36 c d g fun _ c=>
 Bb .add 3 b (nn 1) c fun c d=>
 a c d/\e c d<e b f) (
 d h))) (
 d b))))))/\
 ∀ _ _ _ _ _ _ _ _ _ _ _ _ _ _ _ _ _ _ _ _ _ _ _ _ _ _ _ _ _ _ _ _ _ _ _ _ _ _ _ _ _ _:Value,∀ a:World,d a->
 Ld 36 c a fun a c=>
 St 36 b a c fun _ a=>
 (aO Tryz.prog 36 b a fun b=>R (.returned b) a))
theorem tq (h:oD p0 p1 w R):CC 73 #[p0,p1] w R:=
  aw (.seq none .leaf (.seq none .leaf (.seq (some []) (.seq none .leaf (.one (.seq none .leaf (.two .leaf (.seq none .leaf (.two .leaf (.seq none .leaf (.two .leaf (.seq none .leaf (.two (.one (.loop [] .leaf)) (.seq none .leaf (.two (.seq none .leaf (.one (.loop [6] .leaf))) .leaf)))))))))))) .leaf))) [p0,p1] bo Tryz.func73 (by kernel_rfl) (by kernel_rfl) h

def vi:V2:=fun p0 p1 w R=>
 Al 36 w fun a b=>
 (∃ c:QP1,(
 Bb .lss 3 p1 (nn 2) b fun a b=>
 ag a false (
 Ca 47 [p0,(nn 4)] b fun b d=>
 Bb .eql 3 b (nn 0) d fun b d=>
 Pk a (.bool true) b d fun a b=>
 c a b) (
 Pk a (.bool true) undef b fun a b=>
 c a b))/\
 ∀ b _ _ _ _ _ _:Value,∀ d:World,c b d->
 CondV b (
 Ca 47 [p0,(nn 4)] d fun b c=>
 Bb .eql 3 b (nn 0) c fun c d=>
 CondV c (
 Ca 47 [p0,(nn 4)] d fun b c=>
 Ca 107 [b] c fun b c=>
 St 36 a b c fun _ b=>
 (aO Tryz.prog 36 a b fun a=>R (.returned a) b)) (
 Bb .eql 3 b (nn 1) d fun b c=>
 CondV b (
 RR (av 49 6 [(0,(nn 0)),(1,(nn 1)),(2,(nn 7)),(3,(.int .i64 (-3))),(4,(nn 999)),(5,(.int .i64 (-999)))]) c fun b c=>
 Ca 72 [p0,b] c fun b c=>
 Ca 106 [b] c fun b c=>
 St 36 a b c fun _ b=>
 (aO Tryz.prog 36 a b fun a=>R (.returned a) b)) (
 RR (av 120 6 [(0,(.string ⟨#[97]⟩)),(1,(.string ⟨#[98]⟩)),(2,(.string ⟨#[110,105,108]⟩)),(3,(.string ⟨#[91,93]⟩)),(4,(.string ⟨#[102,111,111]⟩)),(5,(.string ⟨#[43]⟩))]) c fun b c=>
 Ca 105 [p0,b] c fun b c=>
 Ca 70 [b,(Value.slice none 0 0)] c fun b c=>
 St 36 a b c fun _ b=>
 (aO Tryz.prog 36 a b fun a=>R (.returned a) b)))) (
 Ca 47 [p0,(nn 3)] d fun b c=>
 Bb .eql 3 b (nn 0) c fun b c=>
 CondV b (
 Bb .sub 3 p1 (nn 1) c fun b c=>
 Ca 74 [p0,b] c fun b c=>
 Bb .sub 3 p1 (nn 1) c fun c d=>
 Ca 74 [p0,c] d fun c d=>
 RR (av 34 2 [(0,b),(1,c)]) d fun b c=>
 Ca 70 [(.string ⟨#[46]⟩),b] c fun b c=>
 St 36 a b c fun _ b=>
 (aO Tryz.prog 36 a b fun a=>R (.returned a) b)) (
 RR (av 120 7 [(0,(.string ⟨#[102]⟩)),(1,(.string ⟨#[103]⟩)),(2,(.string ⟨#[115]⟩)),(3,(.string ⟨#[43]⟩)),(4,(.string ⟨#[61]⟩)),(5,(.string ⟨#[105,115]⟩)),(6,(.string ⟨#[102,111,111]⟩))]) c fun b c=>
 Ca 105 [p0,b] c fun b c=>
 Ca 70 [b,(Value.slice none 0 0)] c fun b c=>
 Al 36 c fun c d=>
 St 36 c b d fun _ b=>
 RR (av 49 4 [(0,(nn 2)),(1,(nn 1)),(2,(nn 3)),(3,(nn 2))]) b fun b d=>
 Ca 72 [p0,b] d fun b d=>
 (∃ (e:QP1) (f:QN1),e b d/\
 ∀ b _ _ d g h i j k l m n _ _:Value,∀ o:World,e b o->
 Bb .gtr 3 b (nn 0) o fun p q=>
 CondV p (
 (∃ a:NB->QP9,a fF d g h i j k l m n { q with drawn:=q.drawn+1 }/\(
 (∀ b:NB,b 0=false->∀ d e f g h i j k l m,a b d e f g h i j k l m->
 Fd 36 c 3 m fun c l=>
 a (ah b 0) d e f g h i j k c l)/\
 (∀ b:NB,b 1=false->b 0=true->∀ c d e f g h i j k l,a b c d e f g h i j k l->
 Ld 34 k l fun j l=>
 a (ah b 1) c d e f g h i j k l)/\
 (∀ b:NB,b 2=false->∀ c d e f g h i j k l,a b c d e f g h i j k l->
 a (ah b 2) c d e f g h p0 j k l)/\
 (∀ b:NB,b 3=false->∀ c d e f g h i j k l,a b c d e f g h i j k l->
 a (ah b 3) c d e f g p1 i j k l)/\
 (∀ b:NB,b 4=false->b 3=true->∀ c d e f g h i j k l,a b c d e f g h i j k l->
 Bb .sub 3 h (nn 1) l fun g l=>
 a (ah b 4) c d e f g h i j k l)/\
 (∀ b:NB,b 5=false->b 2=true->b 4=true->∀ c d e f g h i j k l,a b c d e f g h i j k l->
 Ca 74 [i,g] l fun f l=>
 a (ah b 5) c d e f g h i j k l)/\
 (∀ b:NB,b 6=false->b 5=true->∀ c d e f g h i j k l,a b c d e f g h i j k l->
 RR (av 34 1 [(0,f)]) l fun e l=>
 a (ah b 6) c d e f g h i j k l)/\
 (∀ b:NB,b 7=false->b 1=true->b 6=true->b 5=true->∀ c d e f g h i j k l,a b c d e f g h i j k l->
 RR (bx .append #[34,34] 34 [false,false] [j,e]) l fun d l=>
 a (ah b 7) c d e f g h i j k l)/\
 (∀ b:NB,b 8=false->b 0=true->b 1=true->b 2=true->b 3=true->b 4=true->b 5=true->b 6=true->b 7=true->∀ d e f g h i j k l m,a b d e f g h i j k l m->
 Fd 36 c 3 m fun c d=>
 a (ah b 8) c e f g h i j k l d)/\
 (∀ b:NB,b 9=false->b 8=true->b 7=true->b 7=true->b 0=true->b 1=true->b 2=true->b 3=true->b 4=true->b 5=true->b 6=true->b 7=true->∀ c d e f g h i j k l,a b c d e f g h i j k l->
 St 34 c d l fun _ l=>
 a (ah b 9) c d e f g h i j k l)/\
 True)/\
 ∀ c:NB,c 9=true->c 8=true->c 7=true->c 6=true->c 5=true->c 4=true->c 3=true->c 2=true->c 1=true->c 0=true->∀ d g h i j k l m n p,a c d g h i j k l m n p->
 Bb .sub 3 b (nn 1) p fun a c=>
 e a c/\f a c<f b o)) (
 Ld 36 c q fun b c=>
 St 36 a b c fun _ b=>
 (aO Tryz.prog 36 a b fun a=>R (.returned a) b))))))
theorem xl (h:vi p0 p1 w R):CC 74 #[p0,p1] w R:=
  aw (.seq none .leaf (.seq none (.seq (some [13]) .leaf .leaf) (.seq none .leaf (.seq none .leaf (.seq none (.seq none .leaf (.one (.loop [6] .leaf))) .leaf))))) [p0,p1] bo Tryz.func74 (by kernel_rfl) (by kernel_rfl) h

def l9:V1:=fun p0 w R=>
 Bx 36 p0 w fun a b=>
 Al 3 b fun b c=>
 St 3 b (nn 0) c fun _ c=>
 Ld 36 a c fun a c=>
 Ca 108 [a,(nn 1),b] c fun a b=>
 R (.returned a) b
theorem sF (h:l9 p0 w R):CC 76 #[p0] w R:=
  aw .leaf [p0] bo Tryz.func76 (by kernel_rfl) (by kernel_rfl) h

def rg:V1:=fun p0 w R=>
 Bx 36 p0 w fun a b=>
 Fd 36 a 0 b fun b c=>
 Ld 3 b c fun b c=>
 Bb .eql 3 b (nn 3) c fun b c=>
 ((fun d:VW=>ag b true (
 Fd 36 a 2 c fun a c=>
 Ld 9 a c fun a c=>
 Ca 109 [a] c fun a c=>
 Pk b a (.bool false) c fun a b=>d a b) (
 Pk b undef (.bool false) c fun a b=>d a b)) fun b c=>
 ((fun d:VW=>ag b true (
 Fd 36 a 2 c fun a c=>
 Ld 9 a c fun a c=>
 Ca 110 [a] c fun a c=>
 Nt a c fun a c=>
 Pk b a (.bool false) c fun a b=>d a b) (
 Pk b undef (.bool false) c fun a b=>d a b)) fun b c=>
 ag b true (
 Ld 36 a c fun a c=>
 Ca 59 [a] c fun a c=>
 Nt a c fun a c=>
 Pk b a (.bool false) c fun a b=>
 R (.returned a) b) (
 Pk b undef (.bool false) c fun a b=>
 R (.returned a) b)))
theorem wq (h:rg p0 w R):CC 77 #[p0] w R:=
  aw .leaf [p0] bo Tryz.func77 (by kernel_rfl) (by kernel_rfl) h

def mJ:V1:=fun p0 w R=>
 Bx 36 p0 w fun a b=>
 Ld 36 a b fun b c=>
 Ca 80 [b] c fun b c=>
 ag b true (
 Ld 36 a c fun a c=>
 Ca 113 [a] c fun a c=>
 Pk b a (.bool false) c fun a b=>
 R (.returned a) b) (
 Pk b undef (.bool false) c fun a b=>
 R (.returned a) b)
theorem rD (h:mJ p0 w R):CC 79 #[p0] w R:=
  aw .leaf [p0] bo Tryz.func79 (by kernel_rfl) (by kernel_rfl) h

def lT:V1:=fun p0 w R=>
 Bx 36 p0 w fun a b=>
 Ld 36 a b fun b c=>
 Ca 114 [b,(nn 30)] c fun b c=>
 ag b true (
 Ld 36 a c fun a c=>
 Ca 115 [a,(nn 120)] c fun a c=>
 Bb .leq 3 a (nn 120) c fun a c=>
 Pk b a (.bool false) c fun a b=>
 R (.returned a) b) (
 Pk b undef (.bool false) c fun a b=>
 R (.returned a) b)
theorem rW (h:lT p0 w R):CC 80 #[p0] w R:=
  aw .leaf [p0] bo Tryz.func80 (by kernel_rfl) (by kernel_rfl) h

def qr:V1:=fun p0 w R=>
 Bx 36 p0 w fun a b=>
 Fd 36 a 0 b fun b c=>
 Ld 3 b c fun b c=>
 Bb .eql 3 b (nn 3) c fun b c=>
 ((fun d:VW=>ag b true (
 Fd 36 a 2 c fun a c=>
 Ld 9 a c fun a c=>
 Ca 116 [a] c fun a c=>
 Pk b a (.bool false) c fun a b=>d a b) (
 Pk b undef (.bool false) c fun a b=>d a b)) fun b c=>
 ((fun d:VW=>ag b true (
 Fd 36 a 2 c fun c e=>
 Ld 9 c e fun c e=>
 Fd 36 a 3 e fun a e=>
 Ld 34 a e fun a e=>
 Ln 34 a e fun a e=>
 Ca 82 [c,a] e fun a c=>
 Nt a c fun a c=>
 Pk b a (.bool false) c fun a b=>d a b) (
 Pk b undef (.bool false) c fun a b=>d a b)) fun b c=>
 ag b true (
 Fd 36 a 2 c fun a c=>
 Ld 9 a c fun a c=>
 Ca 117 [a] c fun a c=>
 Bb .eql 3 a (nn 0) c fun a c=>
 Pk b a (.bool false) c fun a b=>
 R (.returned a) b) (
 Pk b undef (.bool false) c fun a b=>
 R (.returned a) b)))
theorem ww (h:qr p0 w R):CC 81 #[p0] w R:=
  aw .leaf [p0] bo Tryz.func81 (by kernel_rfl) (by kernel_rfl) h

def l6:V2:=fun p0 p1 w R=>
 (∃ a:QP1,(
 Bb .eql 9 p0 (.string ⟨#[61]⟩) w fun b c=>
 CondV b (
 a b c) (
 Bb .eql 9 p0 (.string ⟨#[92,61]⟩) c fun b c=>
 CondV b (
 a b c) (
 Bb .eql 9 p0 (.string ⟨#[61,61]⟩) c fun b c=>
 CondV b (
 a b c) (
 Bb .eql 9 p0 (.string ⟨#[60]⟩) c fun b c=>
 CondV b (
 a b c) (
 Bb .eql 9 p0 (.string ⟨#[62]⟩) c fun b c=>
 CondV b (
 a b c) (
 Bb .eql 9 p0 (.string ⟨#[61,60]⟩) c fun b c=>
 CondV b (
 a b c) (
 Bb .eql 9 p0 (.string ⟨#[62,61]⟩) c fun b c=>
 CondV b (
 a b c) (
 Bb .eql 9 p0 (.string ⟨#[61,58,61]⟩) c fun b c=>
 CondV b (
 a b c) (
 Bb .eql 9 p0 (.string ⟨#[105,115]⟩) c fun b c=>
 a b c)))))))))/\
 ∀ _ _ _ _ _ _ _ _ b _:Value,∀ c:World,a b c->
 CondV b (
 Bb .eql 3 p1 (nn 2) c fun a b=>
 R (.returned a) b) (
 (∃ a:QP1,(
 Bb .eql 9 p0 (.string ⟨#[116,114,117,101]⟩) c fun b c=>
 CondV b (
 a b c) (
 Bb .eql 9 p0 (.string ⟨#[102,97,105,108]⟩) c fun b c=>
 a b c))/\
 ∀ _ b _:Value,∀ c:World,a b c->
 CondV b (
 Bb .eql 3 p1 (nn 0) c fun a b=>
 R (.returned a) b) (
 (∃ a:QP1,(
 Bb .eql 9 p0 (.string ⟨#[118,97,114]⟩) c fun b c=>
 CondV b (
 a b c) (
 Bb .eql 9 p0 (.string ⟨#[110,111,110,118,97,114]⟩) c fun b c=>
 CondV b (
 a b c) (
 Bb .eql 9 p0 (.string ⟨#[97,116,111,109]⟩) c fun b c=>
 CondV b (
 a b c) (
 Bb .eql 9 p0 (.string ⟨#[105,110,116]⟩) c fun b c=>
 a b c))))/\
 ∀ _ _ _ b _:Value,∀ c:World,a b c->
 CondV b (
 Bb .eql 3 p1 (nn 1) c fun a b=>
 R (.returned a) b) (
 Bb .eql 9 p0 (.string ⟨#[97,114,103]⟩) c fun a b=>
 CondV a (
 Bb .eql 3 p1 (nn 3) b fun a b=>
 R (.returned a) b) (
 R (.returned (.bool false)) b)))))))
theorem rY (h:l6 p0 p1 w R):CC 82 #[p0,p1] w R:=
  aw (.seq none .leaf (.seq none (.seq none .leaf (.one (.seq (some [6]) .leaf (.two .leaf (.seq (some [18]) .leaf (.two .leaf (.seq (some [23]) .leaf .leaf))))))) .leaf)) [p0,p1] bo Tryz.func82 (by kernel_rfl) (by kernel_rfl) h

def yD:V1:=fun p0 w R=>
 Bx 36 p0 w fun a b=>
 Fd 36 a 0 b fun b c=>
 Ld 3 b c fun b c=>
 Bb .eql 3 b (nn 3) c fun b c=>
 ((fun d:VW=>ag b true (
 Fd 36 a 2 c fun a c=>
 Ld 9 a c fun a c=>
 Bb .eql 9 a (.string ⟨#[33]⟩) c fun a c=>
 Pk b a (.bool false) c fun a b=>d a b) (
 Pk b undef (.bool false) c fun a b=>d a b)) fun b c=>
 ag b true (
 Fd 36 a 3 c fun a c=>
 Ld 34 a c fun a c=>
 Ln 34 a c fun a c=>
 Bb .eql 3 a (nn 0) c fun a c=>
 Pk b a (.bool false) c fun a b=>
 R (.returned a) b) (
 Pk b undef (.bool false) c fun a b=>
 R (.returned a) b))
theorem AE (h:yD p0 w R):CC 85 #[p0] w R:=
  aw .leaf [p0] bo Tryz.func85 (by kernel_rfl) (by kernel_rfl) h

def lU:V2:=fun p0 p1 w R=>
 (∃ a:QP1,(
 Bb .eql 9 p0 (.string ⟨#[61]⟩) w fun b c=>
 CondV b (
 a b c) (
 Bb .eql 9 p0 (.string ⟨#[92,61]⟩) c fun b c=>
 CondV b (
 a b c) (
 Bb .eql 9 p0 (.string ⟨#[61,61]⟩) c fun b c=>
 CondV b (
 a b c) (
 Bb .eql 9 p0 (.string ⟨#[60]⟩) c fun b c=>
 CondV b (
 a b c) (
 Bb .eql 9 p0 (.string ⟨#[62]⟩) c fun b c=>
 CondV b (
 a b c) (
 Bb .eql 9 p0 (.string ⟨#[61,60]⟩) c fun b c=>
 CondV b (
 a b c) (
 Bb .eql 9 p0 (.string ⟨#[62,61]⟩) c fun b c=>
 CondV b (
 a b c) (
 Bb .eql 9 p0 (.string ⟨#[61,58,61]⟩) c fun b c=>
 CondV b (
 a b c) (
 Bb .eql 9 p0 (.string ⟨#[105,115]⟩) c fun b c=>
 a b c)))))))))/\
 ∀ _ _ _ _ _ _ _ _ b _:Value,∀ c:World,a b c->
 CondV b (
 Bb .eql 3 p1 (nn 2) c fun a b=>
 R (.returned a) b) (
 (∃ a:QP1,(
 Bb .eql 9 p0 (.string ⟨#[116,114,117,101]⟩) c fun b c=>
 CondV b (
 a b c) (
 Bb .eql 9 p0 (.string ⟨#[102,97,105,108]⟩) c fun b c=>
 a b c))/\
 ∀ _ b _:Value,∀ c:World,a b c->
 CondV b (
 Bb .eql 3 p1 (nn 0) c fun a b=>
 R (.returned a) b) (
 (∃ a:QP1,(
 Bb .eql 9 p0 (.string ⟨#[118,97,114]⟩) c fun b c=>
 CondV b (
 a b c) (
 Bb .eql 9 p0 (.string ⟨#[110,111,110,118,97,114]⟩) c fun b c=>
 CondV b (
 a b c) (
 Bb .eql 9 p0 (.string ⟨#[97,116,111,109]⟩) c fun b c=>
 CondV b (
 a b c) (
 Bb .eql 9 p0 (.string ⟨#[105,110,116]⟩) c fun b c=>
 a b c))))/\
 ∀ _ _ _ b _:Value,∀ c:World,a b c->
 CondV b (
 Bb .eql 3 p1 (nn 1) c fun a b=>
 R (.returned a) b) (
 Bb .eql 9 p0 (.string ⟨#[97,114,103]⟩) c fun a b=>
 CondV a (
 Bb .eql 3 p1 (nn 3) b fun a b=>
 R (.returned a) b) (
 R (.returned (.bool false)) b)))))))
theorem rh (h:lU p0 p1 w R):CC 89 #[p0,p1] w R:=
  aw (.seq none .leaf (.seq none (.seq none .leaf (.one (.seq (some [6]) .leaf (.two .leaf (.seq (some [18]) .leaf (.two .leaf (.seq (some [23]) .leaf .leaf))))))) .leaf)) [p0,p1] bo Tryz.func89 (by kernel_rfl) (by kernel_rfl) h

def uX:V1:=fun p0 w R=>
 Bx 36 p0 w fun a b=>
 Fd 36 a 0 b fun b c=>
 Ld 3 b c fun b c=>
 Bb .eql 3 b (nn 3) c fun b c=>
 ag b true (
 Fd 36 a 3 c fun a c=>
 Ld 34 a c fun a c=>
 Ln 34 a c fun a c=>
 Bb .eql 3 a (nn 0) c fun a c=>
 Pk b a (.bool false) c fun a b=>
 R (.returned a) b) (
 Pk b undef (.bool false) c fun a b=>
 R (.returned a) b)
theorem yj (h:uX p0 w R):CC 91 #[p0] w R:=
  aw .leaf [p0] bo Tryz.func91 (by kernel_rfl) (by kernel_rfl) h

def g0:V2:=fun p0 p1 w R=>
 Ln 37 p0 w fun a b=>
 (∃ (c:QP1) (d:QN1),c (nn 0) b/\
 ∀ b _ _ _ _ _ _ _ _ _ _ _ _:Value,∀ e:World,c b e->
 Ba .lss 3 b a e fun a f=>
 CondV a (
 Ia 37 p0 b f fun a f=>
 Ld 39 a f fun a f=>
 RR (fN p1 [a]) f fun a f=>
 CondV a (
 R (.returned b) f) (
 Bb .add 3 b (nn 1) f fun a f=>
 c a f/\d a f<d b e)) (
 R (.returned (.int .i64 (-1))) f))
theorem j4 (h:g0 p0 p1 w R):CC 92 #[p0,p1] w R:=
  aw (.seq none .leaf (.seq none (.seq none .leaf (.one (.loop [8] .leaf))) .leaf)) [p0,p1] bo Tryz.func92 (by kernel_rfl) (by kernel_rfl) h

def jp:V1:=fun p0 w R=>
 RR (av 32 0 []) w fun a b=>
 Ca 129 [p0,(.int .u8 10)] b fun b c=>
 (∃ d:QP1,(
 Ln 120 b c fun a c=>
 Bb .gtr 3 a (nn 21) c fun a c=>
 ag a false (
 Ln 120 b c fun c e=>
 Bb .sub 3 c (nn 1) e fun c e=>
 Ia 120 b c e fun b c=>
 Ld 9 b c fun b c=>
 Bb .neq 9 b (.string ⟨#[]⟩) c fun b c=>
 Pk a (.bool true) b c fun a b=>
 d a b) (
 Pk a (.bool true) undef c fun a b=>
 d a b))/\
 ∀ c _ _ _ _ _ _ _ _ _ _ _:Value,∀ e:World,d c e->
 CondV c (
 R (.returned (.tuple #[a,(.bool false)])) e) (
 (∃ (c:QP2) (d:QN2),c (nn 0) a e/\
 ∀ a _ _ e _ _ _ _ _ _ _ _ _ _ _ _ _ _ _ _ _ _ _ _ _ _ _ _:Value,∀ f:World,c a e f->
 Bb .add 3 a (nn 1) f fun g h=>
 Ln 120 b h fun h i=>
 Ba .lss 3 g h i fun g h=>
 CondV g (
 Ia 120 b a h fun b g=>
 Ld 9 b g fun b g=>
 Ca 130 [b] g fun b g=>
 Ex b 0 56 g fun g h=>
 Ex b 1 4 h fun b h=>
 Al 56 h fun h i=>
 St 56 h g i fun _ g=>
 Nt b g fun b g=>
 CondV b (
 RR (av 32 0 []) g fun a b=>
 R (.returned (.tuple #[a,(.bool false)])) b) (
 Ld 56 h g fun b g=>
 RR (av 32 1 [(0,b)]) g fun b g=>
 RR (bx .append #[32,32] 32 [false,false] [e,b]) g fun b g=>
 Bb .add 3 a (nn 1) g fun g h=>
 c g b h/\d g b h<d a e f)) (
 R (.returned (.tuple #[e,(.bool true)])) h))))
theorem me (h:jp p0 w R):CC 93 #[p0] w R:=
  aw (.seq none .leaf (.seq none .leaf (.seq none .leaf (.seq none (.seq (some [23]) .leaf .leaf) (.seq none (.seq none .leaf (.one (.loop [6,4] .leaf))) .leaf))))) [p0] bo Tryz.func93 (by kernel_rfl) (by kernel_rfl) h

def re (w:World) (R:Ending->World->Prop):Prop:=
 RR (av 120 11 [(0,(.string ⟨#[97,112,112,40,91,93,44,65,44,65,41,46,10,97,112,112,40,91,65,124,66,93,44,67,44,91,65,124,68,93,41,58,45,97,112,112,40,66,44,67,44,68,41,46,10]⟩)),(1,(.string ⟨#[109,101,109,40,65,44,91,65,124,66,93,41,46,10,109,101,109,40,65,44,91,66,124,67,93,41,58,45,109,101,109,40,65,44,67,41,46,10]⟩)),(2,(.string ⟨#[112,40,49,41,46,10,112,40,50,41,46,10,112,40,51,41,46,10,113,40,65,41,58,45,112,40,65,41,44,65,62,49,44,33,46,10,114,40,65,44,66,41,58,45,112,40,65,41,44,112,40,66,41,46,10]⟩)),(3,(.string ⟨#[108,101,110,40,91,93,44,48,41,46,10,108,101,110,40,91,65,124,66,93,44,67,41,58,45,108,101,110,40,66,44,68,41,44,67,32,105,115,32,68,43,49,46,10]⟩)),(4,(.string ⟨#[109,97,120,40,65,44,66,44,65,41,58,45,65,62,61,66,44,33,46,10,109,97,120,40,65,44,66,44,66,41,46,10]⟩)),(5,(.string ⟨#[101,40,97,44,98,41,46,10,101,40,98,44,99,41,46,10,101,40,99,44,100,41,46,10,116,40,65,44,66,41,58,45,101,40,65,44,66,41,46,10,116,40,65,44,66,41,58,45,101,40,65,44,67,41,44,116,40,67,44,66,41,46,10]⟩)),(6,(.string ⟨#[108,111,111,112,58,45,108,111,111,112,46,10,111,107,46,10]⟩)),(7,(.string ⟨#[102,97,99,40,48,44,49,41,58,45,33,46,10,102,97,99,40,65,44,66,41,58,45,65,62,48,44,67,32,105,115,32,65,45,49,44,102,97,99,40,67,44,68,41,44,66,32,105,115,32,65,42,68,46,10]⟩)),(8,(.string ⟨#[115,40,65,41,58,45,65,61,102,40,66,41,44,97,114,103,40,49,44,65,44,66,41,44,66,61,49,46,10,115,40,65,41,58,45,118,97,114,40,65,41,44,65,61,110,111,110,101,46,10]⟩)),(9,(.string ⟨#[114,101,118,40,91,93,44,65,44,65,41,46,10,114,101,118,40,91,65,124,66,93,44,67,44,68,41,58,45,114,101,118,40,66,44,91,65,124,67,93,44,68,41,46,10]⟩)),(10,(.string ⟨#[98,97,100,40,65,41,58,45,66,32,105,115,32,65,43,102,111,111,44,67,61,66,46,10,98,105,103,40,65,41,58,45,65,32,105,115,32,57,57,57,43,49,46,10,117,110,40,65,41,58,45,110,111,115,117,99,104,40,65,41,46,10]⟩))]) w fun a b=>
 R (.returned a) b
theorem vB {w:World} {R:Ending->World->Prop} (h:re w R):Calls Tryz.prog 94 #[] w R:=
  aw .leaf [] bo Tryz.func94 (by kernel_rfl) (by kernel_rfl) h


def oI:V1:=fun p0 w R=>
 Al 36 w fun a b=>
 Ln 9 p0 b fun b c=>
 Bb .gtr 3 b (nn 1000) c fun b c=>
 CondV b (
 RR (bD 36 []) c fun b c=>
 St 36 a b c fun _ b=>
 (aO Tryz.prog 36 a b fun a=>R (.returned (.tuple #[a,(.bool false)])) b)) (
 Ca 131 [p0,(nn 0),(nn 30),(nn 3)] c fun b c=>
 Ex b 0 36 c fun c d=>
 Ex b 1 3 d fun b d=>
 Al 36 d fun d e=>
 St 36 d c e fun _ c=>
 (∃ e:QP1,(
 Ln 9 p0 c fun a c=>
 Ba .neq 3 b a c fun a b=>
 ag a false (
 Ld 36 d b fun b c=>
 Ca 80 [b] c fun b c=>
 Nt b c fun b c=>
 Pk a (.bool true) b c fun a b=>
 e a b) (
 Pk a (.bool true) undef b fun a b=>
 e a b))/\
 ∀ b _ _ _ _ _ _ _ _:Value,∀ c:World,e b c->
 CondV b (
 RR (bD 36 []) c fun b c=>
 St 36 a b c fun _ b=>
 (aO Tryz.prog 36 a b fun a=>R (.returned (.tuple #[a,(.bool false)])) b)) (
 Ld 36 d c fun b c=>
 Ca 71 [b] c fun b c=>
 St 36 a b c fun _ b=>
 (aO Tryz.prog 36 a b fun a=>R (.returned (.tuple #[a,(.bool true)])) b))))
theorem tA (h:oI p0 w R):CC 95 #[p0] w R:=
  aw (.seq none .leaf (.seq none .leaf (.seq none .leaf (.seq none (.seq (some [23]) .leaf .leaf) .leaf)))) [p0] bo Tryz.func95 (by kernel_rfl) (by kernel_rfl) h

def uB:V1:=fun p0 w R=>
 Ca 94 [] w fun a b=>
 Ln 120 a b fun b c=>
 Ca 47 [p0,b] c fun b c=>
 Ia 120 a b c fun a c=>
 Ld 9 a c fun a c=>
 Ca 93 [a] c fun a c=>
 Ex a 0 32 c fun c d=>
 Ex a 1 4 d fun _ a=>
 RR (av 120 3 [(0,(.string ⟨#[97,112,112,40,65,44,66,44,91,49,44,50,93,41]⟩)),(1,(.string ⟨#[97,112,112,40,91,49,93,44,91,50,124,65,93,44,66,41]⟩)),(2,(.string ⟨#[97,112,112,40,65,44,91,49,93,44,65,41]⟩))]) a fun a d=>
 RR (av 120 3 [(0,(.string ⟨#[109,101,109,40,65,44,91,97,44,98,44,99,93,41]⟩)),(1,(.string ⟨#[109,101,109,40,65,44,91,49,44,50,93,41,44,109,101,109,40,66,44,91,65,44,51,93,41]⟩)),(2,(.string ⟨#[109,101,109,40,65,44,66,41]⟩))]) d fun d e=>
 RR (av 120 4 [(0,(.string ⟨#[113,40,65,41]⟩)),(1,(.string ⟨#[114,40,65,44,66,41,44,65,62,66]⟩)),(2,(.string ⟨#[112,40,65,41,44,33,44,112,40,66,41]⟩)),(3,(.string ⟨#[114,40,65,44,65,41]⟩))]) e fun e f=>
 RR (av 120 2 [(0,(.string ⟨#[108,101,110,40,91,97,44,98,44,99,93,44,65,41]⟩)),(1,(.string ⟨#[108,101,110,40,65,44,50,41]⟩))]) f fun f g=>
 RR (av 120 3 [(0,(.string ⟨#[109,97,120,40,51,44,50,44,65,41]⟩)),(1,(.string ⟨#[109,97,120,40,65,44,50,44,51,41]⟩)),(2,(.string ⟨#[109,97,120,40,49,44,50,44,65,41]⟩))]) g fun g h=>
 RR (av 120 3 [(0,(.string ⟨#[116,40,97,44,65,41]⟩)),(1,(.string ⟨#[116,40,65,44,100,41]⟩)),(2,(.string ⟨#[101,40,65,44,66,41]⟩))]) h fun h i=>
 RR (av 120 3 [(0,(.string ⟨#[108,111,111,112]⟩)),(1,(.string ⟨#[111,107,44,33]⟩)),(2,(.string ⟨#[111,107,44,108,111,111,112]⟩))]) i fun i j=>
 RR (av 120 3 [(0,(.string ⟨#[102,97,99,40,52,44,65,41]⟩)),(1,(.string ⟨#[102,97,99,40,48,44,65,41]⟩)),(2,(.string ⟨#[102,97,99,40,55,44,65,41]⟩))]) j fun j k=>
 RR (av 120 2 [(0,(.string ⟨#[115,40,65,41]⟩)),(1,(.string ⟨#[115,40,66,41,44,66,61,102,40,49,41]⟩))]) k fun k l=>
 RR (av 120 2 [(0,(.string ⟨#[114,101,118,40,91,49,44,50,44,51,93,44,91,93,44,65,41]⟩)),(1,(.string ⟨#[114,101,118,40,65,44,91,93,44,91,49,93,41]⟩))]) l fun l m=>
 RR (av 120 3 [(0,(.string ⟨#[98,97,100,40,65,41]⟩)),(1,(.string ⟨#[98,105,103,40,65,41]⟩)),(2,(.string ⟨#[117,110,40,65,41]⟩))]) m fun m n=>
 RR (av 169 11 [(0,a),(1,d),(2,e),(3,f),(4,g),(5,h),(6,i),(7,j),(8,k),(9,l),(10,m)]) n fun a d=>
 Ia 169 a b d fun a b=>
 Ld 120 a b fun a b=>
 Ca 47 [p0,(nn 5)] b fun b d=>
 Bb .eql 3 b (nn 0) d fun b d=>
 CondV b (
 Ca 132 [p0] d fun a b=>
 R (.returned (.tuple #[c,a])) b) (
 Ln 120 a d fun b d=>
 Ca 47 [p0,b] d fun b d=>
 Ia 120 a b d fun a b=>
 Ld 9 a b fun a b=>
 Ca 133 [a] b fun a b=>
 Ex a 0 34 b fun b d=>
 Ex a 1 4 d fun _ a=>
 R (.returned (.tuple #[c,b])) a)
theorem xq (h:uB p0 w R):CC 96 #[p0] w R:=
  aw .leaf [p0] bo Tryz.func96 (by kernel_rfl) (by kernel_rfl) h

def rI:V1:=fun p0 w R=>
 Al 130 w fun a b=>
 RR (sOp (.makeSlice 34 (.const (nn 26)) (.const (nn 26))) 34) b fun b c=>
 RR (bD 130 [(1,b)]) c fun b c=>
 Al 130 c fun c d=>
 St 130 c b d fun _ b=>
 Ca 134 [p0,(nn 0),(nn 0),(Value.slice none 0 0)] b fun b d=>
 Fd 130 c 0 d fun d e=>
 St 127 d b e fun _ b=>
 Ld 130 c b fun b c=>
 St 130 a b c fun _ b=>
 (aO Tryz.prog 130 a b fun a=>R (.returned a) b)
theorem wo (h:rI p0 w R):CC 97 #[p0] w R:=
  aw .leaf [p0] bo Tryz.func97 (by kernel_rfl) (by kernel_rfl) h

def uT:V2:=fun p0 p1 w R=>
 Bx 135 p1 w fun a b=>
 Al 135 b fun b c=>
 Fd 135 a 0 c fun c d=>
 Fd 130 c 0 d fun c d=>
 Ld 127 c d fun c d=>
 Ia 127 c (nn 0) d fun c d=>
 Ld 175 c d fun c d=>
 Al 175 d fun d e=>
 St 175 d c e fun _ c=>
 Fd 175 d 0 c fun c d=>
 Ld 36 c d fun c d=>
 Fd 135 a 0 d fun d e=>
 Fd 130 d 1 e fun d e=>
 Ld 34 d e fun d e=>
 Ca 135 [c,d] e fun c d=>
 Ex c 0 36 d fun d e=>
 Ex c 1 4 e fun c e=>
 Al 36 e fun e f=>
 St 36 e d f fun _ d=>
 (∃ f:QP1,(
 Nt c d fun a b=>
 ag a false (
 Ld 36 e b fun b c=>
 Ca 85 [b] c fun b c=>
 Pk a (.bool true) b c fun a b=>
 f a b) (
 Pk a (.bool true) undef b fun a b=>
 f a b))/\
 ∀ c _ _ _ _ _:Value,∀ d:World,f c d->
 CondV c (
 Ld 135 a d fun a c=>
 St 135 b a c fun _ a=>
 (aO Tryz.prog 135 b a fun b=>R (.returned (.tuple #[b,(nn 0)])) a)) (
 Fd 36 e 2 d fun c d=>
 Ld 9 c d fun c d=>
 Fd 36 e 3 d fun d f=>
 Ld 34 d f fun d f=>
 Ln 34 d f fun d f=>
 Ca 82 [c,d] f fun c d=>
 Nt c d fun c d=>
 CondV c (
 (∃ c:NB->On,c fF undef undef undef undef undef undef undef undef undef undef undef undef undef undef undef undef undef undef undef undef { d with drawn:=d.drawn+1 }/\(
 (∀ a:NB,a 0=false->∀ b d e f g h i j k l m n o p q r s t u v x,c a b d e f g h i j k l m n o p q r s t u v x->
 c (ah a 0) b d e f g h i j k l m n o p q r s t u p0 x)/\
 (∀ b:NB,b 1=false->∀ d e f g h i j k l m n o p q r s t u v x y,c b d e f g h i j k l m n o p q r s t u v x y->
 Ld 135 a y fun a v=>
 c (ah b 1) d e f g h i j k l m n o p q r s t u a x v)/\
 (∀ a:NB,a 2=false->∀ b d f g h i j k l m n o p q r s t u v x y,c a b d f g h i j k l m n o p q r s t u v x y->
 Ld 36 e y fun e u=>
 c (ah a 2) b d f g h i j k l m n o p q r s t e v x u)/\
 (∀ b:NB,b 3=false->∀ d e f g h i j k l m n o p q r s t u v x y,c b d e f g h i j k l m n o p q r s t u v x y->
 Fd 135 a 0 y fun a t=>
 c (ah b 3) d e f g h i j k l m n o p q r s a u v x t)/\
 (∀ a:NB,a 4=false->a 3=true->∀ b d e f g h i j k l m n o p q r s t u v x,c a b d e f g h i j k l m n o p q r s t u v x->
 Fd 130 s 0 x fun r x=>
 c (ah a 4) b d e f g h i j k l m n o p q r s t u v x)/\
 (∀ a:NB,a 5=false->a 4=true->∀ b d e f g h i j k l m n o p q r s t u v x,c a b d e f g h i j k l m n o p q r s t u v x->
 Ld 127 r x fun q x=>
 c (ah a 5) b d e f g h i j k l m n o p q r s t u v x)/\
 (∀ a:NB,a 6=false->a 5=true->∀ b d e f g h i j k l m n o p q r s t u v x,c a b d e f g h i j k l m n o p q r s t u v x->
 RR (sOp (.slice 127 (.const q) (some (.const (nn 1))) none none) 127) x fun p x=>
 c (ah a 6) b d e f g h i j k l m n o p q r s t u v x)/\
 (∀ a:NB,a 7=false->∀ b d e f g h i j k l m n o p q r s t u v x,c a b d e f g h i j k l m n o p q r s t u v x->
 c (ah a 7) b d e f g h i j k l m n p0 p q r s t u v x)/\
 (∀ a:NB,a 8=false->∀ b d f g h i j k l m n o p q r s t u v x y,c a b d f g h i j k l m n o p q r s t u v x y->
 Ld 36 e y fun e o=>
 c (ah a 8) b d f g h i j k l m n e p q r s t u v x o)/\
 (∀ a:NB,a 9=false->a 7=true->a 8=true->∀ b d e f g h i j k l m n o p q r s t u v x,c a b d e f g h i j k l m n o p q r s t u v x->
 Ca 137 [o,n] x fun m x=>
 c (ah a 9) b d e f g h i j k l m n o p q r s t u v x)/\
 (∀ b:NB,b 10=false->∀ d e f g h i j k l m n o p q r s t u v x y,c b d e f g h i j k l m n o p q r s t u v x y->
 Fd 135 a 0 y fun a m=>
 c (ah b 10) d e f g h i j k l a n o p q r s t u v x m)/\
 (∀ a:NB,a 11=false->a 10=true->∀ b d e f g h i j k l m n o p q r s t u v x,c a b d e f g h i j k l m n o p q r s t u v x->
 Fd 130 l 1 x fun k x=>
 c (ah a 11) b d e f g h i j k l m n o p q r s t u v x)/\
 (∀ a:NB,a 12=false->a 11=true->∀ b d e f g h i j k l m n o p q r s t u v x,c a b d e f g h i j k l m n o p q r s t u v x->
 Ld 34 k x fun j x=>
 c (ah a 12) b d e f g h i j k l m n o p q r s t u v x)/\
 (∀ a:NB,a 13=false->a 2=true->a 6=true->a 9=true->a 12=true->∀ b d e f g h i j k l m n o p q r s t u v x,c a b d e f g h i j k l m n o p q r s t u v x->
 RR (bD 180 [(0,t),(1,p),(2,m),(3,j)]) x fun i x=>
 c (ah a 13) b d e f g h i j k l m n o p q r s t u v x)/\
 (∀ a:NB,a 14=false->a 0=true->a 1=true->a 13=true->a 9=true->∀ b d e f g h i j k l m n o p q r s t u v x,c a b d e f g h i j k l m n o p q r s t u v x->
 Ca 136 [v,u,i] x fun h x=>
 c (ah a 14) b d e f g h i j k l m n o p q r s t u v x)/\
 (∀ a:NB,a 15=false->a 14=true->∀ b d e f g h i j k l m n o p q r s t u v x,c a b d e f g h i j k l m n o p q r s t u v x->
 c (ah a 15) b d e f h h i j k l m n o p q r s t u v x)/\
 (∀ a:NB,a 16=false->a 15=true->∀ b d e f g h i j k l m n o p q r s t u v x,c a b d e f g h i j k l m n o p q r s t u v x->
 Ex g 0 135 x fun f x=>
 c (ah a 16) b d e f g h i j k l m n o p q r s t u v x)/\
 (∀ a:NB,a 17=false->a 15=true->∀ b d e f g h i j k l m n o p q r s t u v x,c a b d e f g h i j k l m n o p q r s t u v x->
 Ex g 1 4 x fun e x=>
 c (ah a 17) b d e f g h i j k l m n o p q r s t u v x)/\
 (∀ a:NB,a 18=false->∀ b d e f g h i j k l m n o p q r s t u v x,c a b d e f g h i j k l m n o p q r s t u v x->
 Al 135 x fun d x=>
 c (ah a 18) b d e f g h i j k l m n o p q r s t u v x)/\
 (∀ a:NB,a 19=false->a 18=true->a 16=true->a 14=true->a 0=true->a 1=true->a 2=true->a 3=true->a 4=true->a 5=true->a 6=true->a 7=true->a 8=true->a 9=true->a 10=true->a 11=true->a 12=true->a 13=true->a 14=true->a 15=true->a 16=true->a 18=true->∀ b d e f g h i j k l m n o p q r s t u v x,c a b d e f g h i j k l m n o p q r s t u v x->
 St 135 d f x fun _ x=>
 c (ah a 19) b d e f g h i j k l m n o p q r s t u v x)/\
 (∀ a:NB,a 20=false->a 17=true->a 19=true->a 0=true->a 1=true->a 2=true->a 3=true->a 4=true->a 5=true->a 6=true->a 7=true->a 8=true->a 9=true->a 10=true->a 11=true->a 12=true->a 13=true->a 14=true->a 15=true->a 16=true->a 17=true->a 18=true->a 19=true->∀ b d e f g h i j k l m n o p q r s t u v x,c a b d e f g h i j k l m n o p q r s t u v x->
 c (ah a 20) e d e f g h i j k l m n o p q r s t u v x)/\
 True)/\
 ∀ d:NB,d 20=true->d 19=true->d 18=true->d 17=true->d 16=true->d 15=true->d 14=true->d 13=true->d 12=true->d 11=true->d 10=true->d 9=true->d 8=true->d 7=true->d 6=true->d 5=true->d 4=true->d 3=true->d 2=true->d 1=true->d 0=true->∀ e f g h i j k l m n o p q r s t u v x y z,c d e f g h i j k l m n o p q r s t u v x y z->
 CondV e (
 Ld 135 f z fun a c=>
 St 135 b a c fun _ a=>
 (aO Tryz.prog 135 b a fun b=>R (.returned (.tuple #[b,(.int .i64 (-1))])) a)) (
 Ld 135 a z fun a c=>
 St 135 b a c fun _ a=>
 (aO Tryz.prog 135 b a fun b=>R (.returned (.tuple #[b,(.int .i64 (-2))])) a)))) (
 RR (av 34 0 []) d fun c d=>
 Fd 135 a 0 d fun d f=>
 Fd 130 d 1 f fun d f=>
 Ld 34 d f fun d f=>
 RR (bx .append #[34,34] 34 [false,false] [c,d]) f fun c d=>
 Ld 36 e d fun d f=>
 Ca 138 [d,c] f fun d f=>
 Bb .eql 3 d (nn 1) f fun f g=>
 CondV f (
 Ld 135 a g fun a c=>
 St 135 b a c fun _ a=>
 (aO Tryz.prog 135 b a fun b=>R (.returned (.tuple #[b,(.int .i64 (-2))])) a)) (
 Bb .neq 3 d (nn 0) g fun d f=>
 CondV d (
 Ld 135 a f fun a c=>
 St 135 b a c fun _ a=>
 (aO Tryz.prog 135 b a fun b=>R (.returned (.tuple #[b,(nn 0)])) a)) (
 (∃ d:NB->Nc,d fF undef undef undef undef undef undef undef undef undef undef { f with drawn:=f.drawn+1 }/\(
 (∀ b:NB,b 0=false->∀ c e f g h i j k l m n,d b c e f g h i j k l m n->
 Fd 135 a 0 n fun a m=>
 d (ah b 0) c e f g h i j k l a m)/\
 (∀ a:NB,a 1=false->a 0=true->∀ b c e f g h i j k l m,d a b c e f g h i j k l m->
 Fd 130 l 0 m fun k m=>
 d (ah a 1) b c e f g h i j k l m)/\
 (∀ a:NB,a 2=false->a 1=true->∀ b c e f g h i j k l m,d a b c e f g h i j k l m->
 Ld 127 k m fun j m=>
 d (ah a 2) b c e f g h i j k l m)/\
 (∀ a:NB,a 3=false->a 2=true->∀ b c e f g h i j k l m,d a b c e f g h i j k l m->
 RR (sOp (.slice 127 (.const j) (some (.const (nn 1))) none none) 127) m fun i m=>
 d (ah a 3) b c e f g h i j k l m)/\
 (∀ a:NB,a 4=false->∀ b e f g h i j k l m n,d a b e f g h i j k l m n->
 d (ah a 4) b e f g h c j k l m n)/\
 (∀ b:NB,b 5=false->∀ c e f g h i j k l m n,d b c e f g h i j k l m n->
 Fd 135 a 0 n fun a h=>
 d (ah b 5) c e f g a i j k l m h)/\
 (∀ a:NB,a 6=false->a 5=true->∀ b c e f g h i j k l m,d a b c e f g h i j k l m->
 Fd 130 g 2 m fun f m=>
 d (ah a 6) b c e f g h i j k l m)/\
 (∀ a:NB,a 7=false->a 6=true->∀ b c e f g h i j k l m,d a b c e f g h i j k l m->
 Ld 128 f m fun e m=>
 d (ah a 7) b c e f g h i j k l m)/\
 (∀ a:NB,a 8=false->a 3=true->a 4=true->a 7=true->∀ b c e f g h i j k l m,d a b c e f g h i j k l m->
 RR (bD 130 [(0,i),(1,h),(2,e)]) m fun c m=>
 d (ah a 8) b c e f g h i j k l m)/\
 (∀ b:NB,b 9=false->b 0=true->b 1=true->b 2=true->b 3=true->b 4=true->b 5=true->b 6=true->b 7=true->b 8=true->∀ c e f g h i j k l m n,d b c e f g h i j k l m n->
 Fd 135 a 0 n fun a c=>
 d (ah b 9) a e f g h i j k l m c)/\
 (∀ a:NB,a 10=false->a 9=true->a 8=true->a 0=true->a 1=true->a 2=true->a 3=true->a 4=true->a 5=true->a 6=true->a 7=true->a 8=true->∀ b c e f g h i j k l m,d a b c e f g h i j k l m->
 St 130 b c m fun _ m=>
 d (ah a 10) b c e f g h i j k l m)/\
 True)/\
 ∀ c:NB,c 10=true->c 9=true->c 8=true->c 7=true->c 6=true->c 5=true->c 4=true->c 3=true->c 2=true->c 1=true->c 0=true->∀ f g h i j k l m n o p,d c f g h i j k l m n o p->
 (∃ c:NB->QP9,c fF undef undef undef undef undef undef undef undef undef { p with drawn:=p.drawn+1 }/\(
 (∀ a:NB,a 0=false->∀ b d e f g h i j k l,c a b d e f g h i j k l->
 RR (av 132 0 []) l fun k l=>
 c (ah a 0) b d e f g h i j k l)/\
 (∀ b:NB,b 1=false->∀ d e f g h i j k l m,c b d e f g h i j k l m->
 Fd 135 a 1 m fun a k=>
 c (ah b 1) d e f g h i j a l k)/\
 (∀ a:NB,a 2=false->a 1=true->∀ b d e f g h i j k l,c a b d e f g h i j k l->
 Ld 132 j l fun i l=>
 c (ah a 2) b d e f g h i j k l)/\
 (∀ a:NB,a 3=false->a 0=true->a 2=true->∀ b d e f g h i j k l,c a b d e f g h i j k l->
 RR (bx .append #[132,132] 132 [false,false] [k,i]) l fun h l=>
 c (ah a 3) b d e f g h i j k l)/\
 (∀ a:NB,a 4=false->∀ b d f g h i j k l m,c a b d f g h i j k l m->
 Ld 36 e m fun e h=>
 c (ah a 4) b d f g e i j k l h)/\
 (∀ a:NB,a 5=false->a 4=true->∀ b d e f g h i j k l,c a b d e f g h i j k l->
 RR (bD 183 [(0,g),(1,(.int .i64 (-1)))]) l fun f l=>
 c (ah a 5) b d e f g h i j k l)/\
 (∀ a:NB,a 6=false->a 5=true->∀ b d e f g h i j k l,c a b d e f g h i j k l->
 RR (av 132 1 [(0,f)]) l fun e l=>
 c (ah a 6) b d e f g h i j k l)/\
 (∀ a:NB,a 7=false->a 3=true->a 6=true->a 3=true->∀ b d e f g h i j k l,c a b d e f g h i j k l->
 RR (bx .append #[132,132] 132 [false,false] [h,e]) l fun d l=>
 c (ah a 7) b d e f g h i j k l)/\
 (∀ b:NB,b 8=false->b 0=true->b 1=true->b 2=true->b 3=true->b 4=true->b 5=true->b 6=true->b 7=true->∀ d e f g h i j k l m,c b d e f g h i j k l m->
 Fd 135 a 1 m fun a d=>
 c (ah b 8) a e f g h i j k l d)/\
 (∀ a:NB,a 9=false->a 8=true->a 7=true->a 7=true->a 0=true->a 1=true->a 2=true->a 3=true->a 4=true->a 5=true->a 6=true->a 7=true->∀ b d e f g h i j k l,c a b d e f g h i j k l->
 St 132 b d l fun _ l=>
 c (ah a 9) b d e f g h i j k l)/\
 True)/\
 ∀ d:NB,d 9=true->d 8=true->d 7=true->d 6=true->d 5=true->d 4=true->d 3=true->d 2=true->d 1=true->d 0=true->∀ e f g h i j k l m n,c d e f g h i j k l m n->
 Ld 135 a n fun a c=>
 St 135 b a c fun _ a=>
 (aO Tryz.prog 135 b a fun b=>R (.returned (.tuple #[b,(.int .i64 (-1))])) a))))))))
theorem xA (h:uT p0 p1 w R):CC 98 #[p0,p1] w R:=
  aw (.seq none .leaf (.seq none .leaf (.seq none .leaf (.seq none (.seq (some [32]) .leaf .leaf) .leaf)))) [p0,p1] bo Tryz.func98 (by kernel_rfl) (by kernel_rfl) h

def rp:V2:=fun p0 p1 w R=>
 Bx 135 p1 w fun a b=>
 Al 135 b fun b c=>
 (∃ (d:World->Prop) (e:World->Nat),d c/\
 ∀ _ _ _ _ _ _ _ _ _ _ _ _ _ c f g h i j k l m n o p q r s t u _ _ _ _ _ _ _ _ _ _ _ _ _ _ _ _ _ _:Value,∀ v:World,d v->
 Fd 135 a 0 v fun x y=>
 Fd 130 x 2 y fun x y=>
 Ld 128 x y fun x y=>
 Ln 128 x y fun x y=>
 Bb .gtr 3 x (nn 0) y fun x y=>
 CondV x (
 Fd 135 a 0 y fun x y=>
 Fd 130 x 2 y fun x y=>
 Ld 128 x y fun x y=>
 Ln 128 x y fun x y=>
 Bb .sub 3 x (nn 1) y fun x y=>
 Fd 135 a 0 y fun y z=>
 Fd 130 y 2 z fun y z=>
 Ld 128 y z fun y z=>
 Ia 128 y x z fun y z=>
 Ld 180 y z fun y z=>
 Al 180 z fun z A=>
 St 180 z y A fun _ y=>
 (∃ A:NB->OD,A fF c f g h i j k l m n o p q r s t u { y with drawn:=y.drawn+1 }/\(
 (∀ b:NB,b 0=false->∀ c d e f g h i j k l m n o p q r s t,A b c d e f g h i j k l m n o p q r s t->
 Fd 135 a 0 t fun a s=>
 A (ah b 0) c d e f g h i j k l m n o p q r a s)/\
 (∀ a:NB,a 1=false->a 0=true->∀ b c d e f g h i j k l m n o p q r s,A a b c d e f g h i j k l m n o p q r s->
 Fd 130 r 2 s fun q s=>
 A (ah a 1) b c d e f g h i j k l m n o p q r s)/\
 (∀ a:NB,a 2=false->a 1=true->∀ b c d e f g h i j k l m n o p q r s,A a b c d e f g h i j k l m n o p q r s->
 Ld 128 q s fun p s=>
 A (ah a 2) b c d e f g h i j k l m n o p q r s)/\
 (∀ a:NB,a 3=false->∀ b c d e f g h i j k l m n o p q r s,A a b c d e f g h i j k l m n o p q r s->
 A (ah a 3) b c d e f g h i j k l m n x p q r s)/\
 (∀ a:NB,a 4=false->a 2=true->a 3=true->∀ b c d e f g h i j k l m n o p q r s,A a b c d e f g h i j k l m n o p q r s->
 RR (sOp (.slice 128 (.const p) none (some (.const o)) none) 128) s fun n s=>
 A (ah a 4) b c d e f g h i j k l m n o p q r s)/\
 (∀ a:NB,a 5=false->a 4=true->∀ b c d e f g h i j k l m n o p q r s,A a b c d e f g h i j k l m n o p q r s->
 RR (bD 130 [(2,n)]) s fun m s=>
 A (ah a 5) b c d e f g h i j k l m n o p q r s)/\
 (∀ b:NB,b 6=false->∀ c d e f g h i j k l m n o p q r s t,A b c d e f g h i j k l m n o p q r s t->
 Fd 135 a 2 t fun a m=>
 A (ah b 6) c d e f g h i j k l a n o p q r s m)/\
 (∀ a:NB,a 7=false->a 6=true->∀ b c d e f g h i j k l m n o p q r s,A a b c d e f g h i j k l m n o p q r s->
 Ld 133 l s fun k s=>
 A (ah a 7) b c d e f g h i j k l m n o p q r s)/\
 (∀ a:NB,a 8=false->∀ b c d e f g h i j k l m n o p q r s,A a b c d e f g h i j k l m n o p q r s->
 A (ah a 8) b c d e f g h i x k l m n o p q r s)/\
 (∀ a:NB,a 9=false->a 7=true->a 8=true->∀ b c d e f g h i j k l m n o p q r s,A a b c d e f g h i j k l m n o p q r s->
 Ia 133 k j s fun i s=>
 A (ah a 9) b c d e f g h i j k l m n o p q r s)/\
 (∀ a:NB,a 10=false->a 9=true->∀ b c d e f g h i j k l m n o p q r s,A a b c d e f g h i j k l m n o p q r s->
 Ld 132 i s fun h s=>
 A (ah a 10) b c d e f g h i j k l m n o p q r s)/\
 (∀ b:NB,b 11=false->∀ c d e f g h i j k l m n o p q r s t,A b c d e f g h i j k l m n o p q r s t->
 Fd 135 a 2 t fun a h=>
 A (ah b 11) c d e f g a i j k l m n o p q r s h)/\
 (∀ a:NB,a 12=false->a 11=true->∀ b c d e f g h i j k l m n o p q r s,A a b c d e f g h i j k l m n o p q r s->
 Ld 133 g s fun f s=>
 A (ah a 12) b c d e f g h i j k l m n o p q r s)/\
 (∀ a:NB,a 13=false->∀ b c d e f g h i j k l m n o p q r s,A a b c d e f g h i j k l m n o p q r s->
 A (ah a 13) b c d x f g h i j k l m n o p q r s)/\
 (∀ a:NB,a 14=false->a 12=true->a 13=true->∀ b c d e f g h i j k l m n o p q r s,A a b c d e f g h i j k l m n o p q r s->
 RR (sOp (.slice 133 (.const f) none (some (.const e)) none) 133) s fun d s=>
 A (ah a 14) b c d e f g h i j k l m n o p q r s)/\
 (∀ a:NB,a 15=false->a 5=true->a 10=true->a 14=true->∀ b c d e f g h i j k l m n o p q r s,A a b c d e f g h i j k l m n o p q r s->
 RR (bD 135 [(0,m),(1,h),(2,d)]) s fun c s=>
 A (ah a 15) b c d e f g h i j k l m n o p q r s)/\
 (∀ a:NB,a 16=false->∀ b c d e f g h i j k l m n o p q r s,A a b c d e f g h i j k l m n o p q r s->
 Al 135 s fun b s=>
 A (ah a 16) b c d e f g h i j k l m n o p q r s)/\
 (∀ a:NB,a 17=false->a 16=true->a 15=true->a 0=true->a 1=true->a 2=true->a 3=true->a 4=true->a 5=true->a 6=true->a 7=true->a 8=true->a 9=true->a 10=true->a 11=true->a 12=true->a 13=true->a 14=true->a 15=true->a 16=true->∀ b c d e f g h i j k l m n o p q r s,A a b c d e f g h i j k l m n o p q r s->
 St 135 b c s fun _ s=>
 A (ah a 17) b c d e f g h i j k l m n o p q r s)/\
 True)/\
 ∀ c:NB,c 17=true->c 16=true->c 15=true->c 14=true->c 13=true->c 12=true->c 11=true->c 10=true->c 9=true->c 8=true->c 7=true->c 6=true->c 5=true->c 4=true->c 3=true->c 2=true->c 1=true->c 0=true->∀ f g h i j k l m n o p q r s t u x y,A c f g h i j k l m n o p q r s t u x y->
 Ld 135 f y fun c g=>
 Ld 180 z g fun g h=>
 Ca 136 [p0,c,g] h fun c g=>
 Ex c 0 135 g fun g h=>
 Ex c 1 4 h fun c h=>
 Al 135 h fun h i=>
 St 135 h g i fun _ g=>
 CondV c (
 Ld 135 h g fun a c=>
 St 135 b a c fun _ a=>
 (aO Tryz.prog 135 b a fun b=>R (.returned (.tuple #[b,(.bool true)])) a)) (
 Ld 135 f g fun b c=>
 St 135 a b c fun _ a=>
 d a/\e a<e v))) (
 Ld 135 a y fun a c=>
 St 135 b a c fun _ a=>
 (aO Tryz.prog 135 b a fun b=>R (.returned (.tuple #[b,(.bool false)])) a)))
theorem vD (h:rp p0 p1 w R):CC 99 #[p0,p1] w R:=
  aw (.seq none .leaf (.seq none (.one (.loop [] .leaf)) .leaf)) [p0,p1] bo Tryz.func99 (by kernel_rfl) (by kernel_rfl) h

def o3:V3:=fun p0 p1 p2 w R=>
 Al 39 w fun a b=>
 Ia 132 p0 p1 b fun b c=>
 Fd 183 b 0 c fun b c=>
 Ld 36 b c fun b c=>
 Ca 135 [b,p2] c fun b c=>
 Ex b 0 36 c fun c d=>
 Ex b 1 4 d fun b d=>
 Al 36 d fun d e=>
 St 36 d c e fun _ c=>
 (∃ e:NB->QP8,e fF undef undef undef undef undef undef undef undef { c with drawn:=c.drawn+1 }/\(
 (∀ a:NB,a 0=false->∀ b c f g h i j k l,e a b c f g h i j k l->
 Ld 36 d l fun d k=>
 e (ah a 0) b c f g h i j d k)/\
 (∀ a:NB,a 1=false->∀ b c d f g h i j k,e a b c d f g h i j k->
 e (ah a 1) b c d f g h p0 j k)/\
 (∀ a:NB,a 2=false->∀ b c d f g h i j k,e a b c d f g h i j k->
 e (ah a 2) b c d f g p1 i j k)/\
 (∀ a:NB,a 3=false->a 1=true->a 2=true->∀ b c d f g h i j k,e a b c d f g h i j k->
 Ia 132 i h k fun g k=>
 e (ah a 3) b c d f g h i j k)/\
 (∀ a:NB,a 4=false->a 3=true->∀ b c d f g h i j k,e a b c d f g h i j k->
 Fd 183 g 1 k fun f k=>
 e (ah a 4) b c d f g h i j k)/\
 (∀ a:NB,a 5=false->a 4=true->∀ b c d f g h i j k,e a b c d f g h i j k->
 Ld 3 f k fun d k=>
 e (ah a 5) b c d f g h i j k)/\
 (∀ a:NB,a 6=false->a 0=true->a 5=true->∀ b c d f g h i j k,e a b c d f g h i j k->
 RR (bD 39 [(0,j),(1,d)]) k fun c k=>
 e (ah a 6) b c d f g h i j k)/\
 (∀ a:NB,a 7=false->∀ b c d f g h i j k,e a b c d f g h i j k->
 Al 39 k fun b k=>
 e (ah a 7) b c d f g h i j k)/\
 (∀ a:NB,a 8=false->a 7=true->a 6=true->a 0=true->a 1=true->a 2=true->a 3=true->a 4=true->a 5=true->a 6=true->a 7=true->∀ b c d f g h i j k,e a b c d f g h i j k->
 St 39 b c k fun _ k=>
 e (ah a 8) b c d f g h i j k)/\
 True)/\
 ∀ c:NB,c 8=true->c 7=true->c 6=true->c 5=true->c 4=true->c 3=true->c 2=true->c 1=true->c 0=true->∀ d f g h i j k l m,e c d f g h i j k l m->
 Ia 132 p0 p1 m fun c e=>
 Fd 183 c 2 e fun c e=>
 Ld 3 c e fun c e=>
 Bb .add 3 p1 (nn 1) e fun e f=>
 (∃ (g:QP3) (h:QN3),g (nn 0) b e f/\
 ∀ b _ _ e _ f _ _ _ _ _ _ _ _ _ _ _ _ _ _ _ _ _ _ _ _ _ _ _ _:Value,∀ i:World,g b e f i->
 (∃ j:QP1,(
 Ba .lss 3 b c i fun a b=>
 ag a true (
 Pk a e (.bool false) b fun a b=>
 j a b) (
 Pk a undef (.bool false) b fun a b=>
 j a b))/\
 ∀ c _ _ _ _ _:Value,∀ k:World,j c k->
 CondV c (
 Ca 100 [p0,f,p2] k fun a c=>
 Ex a 0 39 c fun c j=>
 Ex a 1 3 j fun j k=>
 Ex a 2 4 k fun a k=>
 Al 39 k fun k l=>
 St 39 k c l fun _ c=>
 Fd 39 d 2 c fun c l=>
 Ld 37 c l fun c l=>
 Ld 39 k l fun k l=>
 RR (av 37 1 [(0,k)]) l fun k l=>
 RR (bx .append #[37,37] 37 [false,false] [c,k]) l fun c k=>
 Fd 39 d 2 k fun d k=>
 St 37 d c k fun _ c=>
 Bb .add 3 b (nn 1) c fun c d=>
 g c a j d/\h c a j d<h b e f i) (
 Ld 39 d k fun b c=>
 St 39 a b c fun _ b=>
 (aO Tryz.prog 39 a b fun a=>R (.returned (.tuple #[a,f,e])) b)))))
theorem sL (h:o3 p0 p1 p2 w R):CC 100 #[p0,p1,p2] w R:=
  aw (.seq none .leaf (.seq none .leaf (.seq none .leaf (.seq none .leaf (.seq none .leaf (.seq none (.seq none .leaf (.one (.loop [13,10,1] (.seq none (.seq (some [46]) .leaf .leaf) .leaf)))) .leaf)))))) [p0,p1,p2] bo Tryz.func100 (by kernel_rfl) (by kernel_rfl) h

def ne:V2:=fun p0 p1 w R=>
 Bx 39 p0 w fun a b=>
 Al 39 b fun b c=>
 (∃ d:NB->QP8,d fF undef undef undef undef undef undef undef undef { c with drawn:=c.drawn+1 }/\(
 (∀ b:NB,b 0=false->∀ c e f g h i j k l,d b c e f g h i j k l->
 Fd 39 a 0 l fun a k=>
 d (ah b 0) c e f g h i j a k)/\
 (∀ a:NB,a 1=false->a 0=true->∀ b c e f g h i j k,d a b c e f g h i j k->
 Ld 36 j k fun i k=>
 d (ah a 1) b c e f g h i j k)/\
 (∀ a:NB,a 2=false->∀ b c e f g h i j k,d a b c e f g h i j k->
 d (ah a 2) b c e f g p1 i j k)/\
 (∀ a:NB,a 3=false->a 1=true->a 2=true->∀ b c e f g h i j k,d a b c e f g h i j k->
 Ca 139 [i,h] k fun g k=>
 d (ah a 3) b c e f g h i j k)/\
 (∀ b:NB,b 4=false->∀ c e f g h i j k l,d b c e f g h i j k l->
 Fd 39 a 1 l fun a g=>
 d (ah b 4) c e f a h i j k g)/\
 (∀ a:NB,a 5=false->a 4=true->∀ b c e f g h i j k,d a b c e f g h i j k->
 Ld 3 f k fun e k=>
 d (ah a 5) b c e f g h i j k)/\
 (∀ a:NB,a 6=false->a 3=true->a 5=true->∀ b c e f g h i j k,d a b c e f g h i j k->
 RR (bD 39 [(0,g),(1,e)]) k fun c k=>
 d (ah a 6) b c e f g h i j k)/\
 (∀ a:NB,a 7=false->∀ b c e f g h i j k,d a b c e f g h i j k->
 Al 39 k fun b k=>
 d (ah a 7) b c e f g h i j k)/\
 (∀ a:NB,a 8=false->a 7=true->a 6=true->a 3=true->a 0=true->a 1=true->a 2=true->a 3=true->a 4=true->a 5=true->a 6=true->a 7=true->∀ b c e f g h i j k,d a b c e f g h i j k->
 St 39 b c k fun _ k=>
 d (ah a 8) b c e f g h i j k)/\
 True)/\
 ∀ c:NB,c 8=true->c 7=true->c 6=true->c 5=true->c 4=true->c 3=true->c 2=true->c 1=true->c 0=true->∀ e f g h i j k l m,d c e f g h i j k l m->
 (∃ (c:QP1) (d:QN1),c (nn 0) m/\
 ∀ f _ _ g h i j k l m n o p q r _ _ _ _ _:Value,∀ s:World,c f s->
 Fd 39 a 2 s fun t u=>
 Ld 37 t u fun t u=>
 Ln 37 t u fun t u=>
 Ba .lss 3 f t u fun t u=>
 CondV t (
 (∃ b:NB->JK,b fF g h i j k l m n o p q r { u with drawn:=u.drawn+1 }/\(
 (∀ a:NB,a 0=false->∀ c d f g h i j k l m n o p,b a c d f g h i j k l m n o p->
 Fd 39 e 2 p fun e o=>
 b (ah a 0) c d f g h i j k l m n e o)/\
 (∀ a:NB,a 1=false->a 0=true->∀ c d e f g h i j k l m n o,b a c d e f g h i j k l m n o->
 Ld 37 n o fun m o=>
 b (ah a 1) c d e f g h i j k l m n o)/\
 (∀ c:NB,c 2=false->∀ d e f g h i j k l m n o p,b c d e f g h i j k l m n o p->
 Fd 39 a 2 p fun a m=>
 b (ah c 2) d e f g h i j k l a n o m)/\
 (∀ a:NB,a 3=false->a 2=true->∀ c d e f g h i j k l m n o,b a c d e f g h i j k l m n o->
 Ld 37 l o fun k o=>
 b (ah a 3) c d e f g h i j k l m n o)/\
 (∀ a:NB,a 4=false->∀ c d e g h i j k l m n o p,b a c d e g h i j k l m n o p->
 b (ah a 4) c d e g h i j f l m n o p)/\
 (∀ a:NB,a 5=false->a 3=true->a 4=true->∀ c d e f g h i j k l m n o,b a c d e f g h i j k l m n o->
 Ia 37 k j o fun i o=>
 b (ah a 5) c d e f g h i j k l m n o)/\
 (∀ a:NB,a 6=false->a 5=true->∀ c d e f g h i j k l m n o,b a c d e f g h i j k l m n o->
 Ld 39 i o fun h o=>
 b (ah a 6) c d e f g h i j k l m n o)/\
 (∀ a:NB,a 7=false->∀ c d e f g h i j k l m n o,b a c d e f g h i j k l m n o->
 b (ah a 7) c d e f p1 h i j k l m n o)/\
 (∀ a:NB,a 8=false->a 6=true->a 7=true->∀ c d e f g h i j k l m n o,b a c d e f g h i j k l m n o->
 Ca 101 [h,g] o fun f o=>
 b (ah a 8) c d e f g h i j k l m n o)/\
 (∀ a:NB,a 9=false->a 8=true->∀ c d e f g h i j k l m n o,b a c d e f g h i j k l m n o->
 RR (av 37 1 [(0,f)]) o fun e o=>
 b (ah a 9) c d e f g h i j k l m n o)/\
 (∀ a:NB,a 10=false->a 1=true->a 9=true->a 8=true->∀ c d e f g h i j k l m n o,b a c d e f g h i j k l m n o->
 RR (bx .append #[37,37] 37 [false,false] [m,e]) o fun d o=>
 b (ah a 10) c d e f g h i j k l m n o)/\
 (∀ a:NB,a 11=false->a 0=true->a 1=true->a 2=true->a 3=true->a 4=true->a 5=true->a 6=true->a 7=true->a 8=true->a 9=true->a 10=true->∀ c d f g h i j k l m n o p,b a c d f g h i j k l m n o p->
 Fd 39 e 2 p fun c e=>
 b (ah a 11) c d f g h i j k l m n o e)/\
 (∀ a:NB,a 12=false->a 11=true->a 10=true->a 10=true->a 0=true->a 1=true->a 2=true->a 3=true->a 4=true->a 5=true->a 6=true->a 7=true->a 8=true->a 9=true->a 10=true->∀ c d e f g h i j k l m n o,b a c d e f g h i j k l m n o->
 St 37 c d o fun _ o=>
 b (ah a 12) c d e f g h i j k l m n o)/\
 True)/\
 ∀ a:NB,a 12=true->a 11=true->a 10=true->a 9=true->a 8=true->a 7=true->a 6=true->a 5=true->a 4=true->a 3=true->a 2=true->a 1=true->a 0=true->∀ e g h i j k l m n o p q r,b a e g h i j k l m n o p q r->
 Bb .add 3 f (nn 1) r fun a b=>
 c a b/\d a b<d f s)) (
 Ld 39 e u fun a c=>
 St 39 b a c fun _ a=>
 (aO Tryz.prog 39 b a fun b=>R (.returned b) a))))
theorem sg (h:ne p0 p1 w R):CC 101 #[p0,p1] w R:=
  aw (.seq none .leaf (.seq none .leaf (.seq none (.seq none .leaf (.one (.loop [6] .leaf))) .leaf))) [p0,p1] bo Tryz.func101 (by kernel_rfl) (by kernel_rfl) h

def qO:V2:=fun p0 p1 w R=>
 Bx 39 p1 w fun a b=>
 Fd 39 a 0 b fun b c=>
 Ld 36 b c fun b c=>
 Ca 140 [p0,b] c fun b c=>
 (∃ (d:QP2) (e:QN2),d (nn 0) b c/\
 ∀ b _ _ c _ _ _ _ _ _ _ _ _ _ _ _:Value,∀ f:World,d b c f->
 Fd 39 a 2 f fun g h=>
 Ld 37 g h fun g h=>
 Ln 37 g h fun g h=>
 Ba .lss 3 b g h fun g h=>
 CondV g (
 Fd 39 a 2 h fun a g=>
 Ld 37 a g fun a g=>
 Ia 37 a b g fun a g=>
 Ld 39 a g fun a g=>
 Ca 102 [c,a] g fun a g=>
 Bb .add 3 b (nn 1) g fun g h=>
 d g a h/\e g a h<e b c f) (
 R (.returned c) h))
theorem vY (h:qO p0 p1 w R):CC 102 #[p0,p1] w R:=
  aw (.seq none .leaf (.seq none .leaf (.seq none (.seq none .leaf (.one (.loop [5,0] .leaf))) .leaf))) [p0,p1] bo Tryz.func102 (by kernel_rfl) (by kernel_rfl) h

def uM:V1:=fun p0 w R=>
 Bx 56 p0 w fun a b=>
 Al 56 b fun b c=>
 Fd 56 a 0 c fun c d=>
 Ld 36 c d fun c d=>
 Ca 71 [c] d fun c d=>
 RR (bD 56 [(0,c)]) d fun c d=>
 Al 56 d fun d e=>
 St 56 d c e fun _ c=>
 (∃ (e:QP1) (f:QN1),e (nn 0) c/\
 ∀ c _ _ g h i j k l m n o p q _ _ _ _ _:Value,∀ r:World,e c r->
 Fd 56 a 1 r fun s t=>
 Ld 34 s t fun s t=>
 Ln 34 s t fun s t=>
 Ba .lss 3 c s t fun s t=>
 CondV s (
 (∃ b:NB->LK,b fF g h i j k l m n o p q { t with drawn:=t.drawn+1 }/\(
 (∀ a:NB,a 0=false->∀ c e f g h i j k l m n o,b a c e f g h i j k l m n o->
 Fd 56 d 1 o fun d n=>
 b (ah a 0) c e f g h i j k l m d n)/\
 (∀ a:NB,a 1=false->a 0=true->∀ c d e f g h i j k l m n,b a c d e f g h i j k l m n->
 Ld 34 m n fun l n=>
 b (ah a 1) c d e f g h i j k l m n)/\
 (∀ c:NB,c 2=false->∀ d e f g h i j k l m n o,b c d e f g h i j k l m n o->
 Fd 56 a 1 o fun a l=>
 b (ah c 2) d e f g h i j k a m n l)/\
 (∀ a:NB,a 3=false->a 2=true->∀ c d e f g h i j k l m n,b a c d e f g h i j k l m n->
 Ld 34 k n fun j n=>
 b (ah a 3) c d e f g h i j k l m n)/\
 (∀ a:NB,a 4=false->∀ d e f g h i j k l m n o,b a d e f g h i j k l m n o->
 b (ah a 4) d e f g h i c k l m n o)/\
 (∀ a:NB,a 5=false->a 3=true->a 4=true->∀ c d e f g h i j k l m n,b a c d e f g h i j k l m n->
 Ia 34 j i n fun h n=>
 b (ah a 5) c d e f g h i j k l m n)/\
 (∀ a:NB,a 6=false->a 5=true->∀ c d e f g h i j k l m n,b a c d e f g h i j k l m n->
 Ld 36 h n fun g n=>
 b (ah a 6) c d e f g h i j k l m n)/\
 (∀ a:NB,a 7=false->a 6=true->∀ c d e f g h i j k l m n,b a c d e f g h i j k l m n->
 Ca 71 [g] n fun f n=>
 b (ah a 7) c d e f g h i j k l m n)/\
 (∀ a:NB,a 8=false->a 7=true->∀ c d e f g h i j k l m n,b a c d e f g h i j k l m n->
 RR (av 34 1 [(0,f)]) n fun e n=>
 b (ah a 8) c d e f g h i j k l m n)/\
 (∀ a:NB,a 9=false->a 1=true->a 8=true->a 7=true->∀ c d e f g h i j k l m n,b a c d e f g h i j k l m n->
 RR (bx .append #[34,34] 34 [false,false] [l,e]) n fun d n=>
 b (ah a 9) c d e f g h i j k l m n)/\
 (∀ a:NB,a 10=false->a 0=true->a 1=true->a 2=true->a 3=true->a 4=true->a 5=true->a 6=true->a 7=true->a 8=true->a 9=true->∀ c e f g h i j k l m n o,b a c e f g h i j k l m n o->
 Fd 56 d 1 o fun c d=>
 b (ah a 10) c e f g h i j k l m n d)/\
 (∀ a:NB,a 11=false->a 10=true->a 9=true->a 9=true->a 0=true->a 1=true->a 2=true->a 3=true->a 4=true->a 5=true->a 6=true->a 7=true->a 8=true->a 9=true->∀ c d e f g h i j k l m n,b a c d e f g h i j k l m n->
 St 34 c d n fun _ n=>
 b (ah a 11) c d e f g h i j k l m n)/\
 True)/\
 ∀ a:NB,a 11=true->a 10=true->a 9=true->a 8=true->a 7=true->a 6=true->a 5=true->a 4=true->a 3=true->a 2=true->a 1=true->a 0=true->∀ d g h i j k l m n o p q,b a d g h i j k l m n o p q->
 Bb .add 3 c (nn 1) q fun a b=>
 e a b/\f a b<f c r)) (
 Ld 56 d t fun a c=>
 St 56 b a c fun _ a=>
 (aO Tryz.prog 56 b a fun b=>R (.returned b) a)))
theorem yy (h:uM p0 w R):CC 103 #[p0] w R:=
  aw (.seq none .leaf (.seq none .leaf (.seq none (.seq none .leaf (.one (.loop [4] .leaf))) .leaf))) [p0] bo Tryz.func103 (by kernel_rfl) (by kernel_rfl) h

def oj:V2:=fun p0 p1 w R=>
 Ln 120 p1 w fun a b=>
 Ca 47 [p0,a] b fun a b=>
 Ia 120 p1 a b fun a b=>
 Ld 9 a b fun a b=>
 R (.returned a) b
theorem tG (h:oj p0 p1 w R):CC 105 #[p0,p1] w R:=
  aw .leaf [p0,p1] bo Tryz.func105 (by kernel_rfl) (by kernel_rfl) h

def xK:V1:=fun p0 w R=>
 Al 36 w fun a b=>
 RR (bD 36 [(0,(nn 2)),(1,p0)]) b fun b c=>
 St 36 a b c fun _ b=>
 (aO Tryz.prog 36 a b fun a=>R (.returned a) b)
theorem Af (h:xK p0 w R):CC 106 #[p0] w R:=
  aw .leaf [p0] bo Tryz.func106 (by kernel_rfl) (by kernel_rfl) h

def xX:V1:=fun p0 w R=>
 Al 36 w fun a b=>
 RR (bD 36 [(0,(nn 1)),(1,p0)]) b fun b c=>
 St 36 a b c fun _ b=>
 (aO Tryz.prog 36 a b fun a=>R (.returned a) b)
theorem AC (h:xX p0 w R):CC 107 #[p0] w R:=
  aw .leaf [p0] bo Tryz.func107 (by kernel_rfl) (by kernel_rfl) h

def BF:V3:=fun p0 p1 p2 w R=>
 Bx 36 p0 w fun a b=>
 Bx 3 p1 b fun b c=>
 Bx 70 p2 c fun c d=>
 Ld 70 c d fun d e=>
 RR (sOp (.nilCheck (.const d)) 0) e fun e f=>
 Ld 3 e f fun e f=>
 Bb .add 3 e (nn 1) f fun e f=>
 RR (sOp (.nilCheck (.const d)) 0) f fun d f=>
 St 3 d e f fun _ d=>
 (∃ e:QP1,(
 Ld 70 c d fun a c=>
 RR (sOp (.nilCheck (.const a)) 0) c fun a c=>
 Ld 3 a c fun a c=>
 Bb .gtr 3 a (nn 120) c fun a c=>
 ag a false (
 Ld 3 b c fun b c=>
 Bb .gtr 3 b (nn 30) c fun b c=>
 Pk a (.bool true) b c fun a b=>
 e a b) (
 Pk a (.bool true) undef c fun a b=>
 e a b))/\
 ∀ d _ _ _ _ _ _ _:Value,∀ f:World,e d f->
 CondV d (
 R (.returned (.bool false)) f) (
 Fd 36 a 0 f fun d e=>
 Ld 3 d e fun d e=>
 Bb .eql 3 d (nn 1) e fun e f=>
 CondV e (
 Fd 36 a 1 f fun b c=>
 Ld 3 b c fun b c=>
 Ca 64 [b,(nn 0),(nn 25)] c fun b c=>
 ((fun d:VW=>ag b true (
 Fd 36 a 2 c fun a c=>
 Ld 9 a c fun a c=>
 Bb .eql 9 a (.string ⟨#[]⟩) c fun a c=>
 Pk b a (.bool false) c fun a b=>d a b) (
 Pk b undef (.bool false) c fun a b=>d a b)) fun b c=>
 ag b true (
 Fd 36 a 3 c fun a c=>
 Ld 34 a c fun a c=>
 Ln 34 a c fun a c=>
 Bb .eql 3 a (nn 0) c fun a c=>
 Pk b a (.bool false) c fun a b=>
 R (.returned a) b) (
 Pk b undef (.bool false) c fun a b=>
 R (.returned a) b))) (
 Bb .eql 3 d (nn 2) f fun e f=>
 CondV e (
 Fd 36 a 1 f fun b c=>
 Ld 3 b c fun b c=>
 Ca 64 [b,(.int .i64 (-999)),(nn 999)] c fun b c=>
 ((fun d:VW=>ag b true (
 Fd 36 a 2 c fun a c=>
 Ld 9 a c fun a c=>
 Bb .eql 9 a (.string ⟨#[]⟩) c fun a c=>
 Pk b a (.bool false) c fun a b=>d a b) (
 Pk b undef (.bool false) c fun a b=>d a b)) fun b c=>
 ag b true (
 Fd 36 a 3 c fun a c=>
 Ld 34 a c fun a c=>
 Ln 34 a c fun a c=>
 Bb .eql 3 a (nn 0) c fun a c=>
 Pk b a (.bool false) c fun a b=>
 R (.returned a) b) (
 Pk b undef (.bool false) c fun a b=>
 R (.returned a) b))) (
 Bb .eql 3 d (nn 3) f fun d e=>
 CondV d (
 (∃ d:QP1,(
 Fd 36 a 1 e fun b c=>
 Ld 3 b c fun b c=>
 Bb .neq 3 b (nn 0) c fun b c=>
 ((fun d:VW=>ag b false (
 Fd 36 a 2 c fun a c=>
 Ld 9 a c fun a c=>
 Ca 141 [a] c fun a c=>
 Nt a c fun a c=>
 Pk b (.bool true) a c fun a b=>d a b) (
 Pk b (.bool true) undef c fun a b=>d a b)) fun b c=>
 ag b false (
 Fd 36 a 3 c fun a c=>
 Ld 34 a c fun a c=>
 Ln 34 a c fun a c=>
 Bb .gtr 3 a (nn 4) c fun a c=>
 Pk b (.bool true) a c fun a b=>
 d a b) (
 Pk b (.bool true) undef c fun a b=>
 d a b)))/\
 ∀ e _ _ _ _ _ _ _ _ _ _ _ _ _ _:Value,∀ f:World,d e f->
 CondV e (
 R (.returned (.bool false)) f) (
 Fd 36 a 3 f fun a d=>
 Ld 34 a d fun a d=>
 RR (iG (.func 142) [] [b,c]) d fun b c=>
 Ca 111 [a,b] c fun a b=>
 Nt a b fun a b=>
 R (.returned a) b))) (
 R (.returned (.bool false)) e)))))
theorem CU (h:BF p0 p1 p2 w R):CC 108 #[p0,p1,p2] w R:=
  aw (.seq none .leaf (.seq none .leaf (.seq none (.seq (some [19]) .leaf .leaf) (.seq none (.seq none .leaf (.one (.seq none .leaf (.two .leaf (.seq none .leaf (.two .leaf (.seq none .leaf (.two (.seq none (.seq (some [70]) .leaf .leaf) .leaf) .leaf)))))))) .leaf)))) [p0,p1,p2] bo Tryz.func108 (by kernel_rfl) (by kernel_rfl) h

def my:V1:=fun p0 w R=>
 Ln 9 p0 w fun a b=>
 (∃ (c:QP1) (d:QN1),c (nn 0) b/\
 ∀ b _ _ _ _ _ _ _ _ _ _ _ _ _ _ _:Value,∀ e:World,c b e->
 Ba .lss 3 b a e fun a f=>
 CondV a (
 (∃ a:QP1,(
 Ix 9 p0 b 5 f fun c d=>
 Bb .lss 5 c (.int .u8 97) d fun c d=>
 ag c false (
 Ix 9 p0 b 5 d fun b d=>
 Bb .gtr 5 b (.int .u8 122) d fun b d=>
 Pk c (.bool true) b d fun b c=>
 a b c) (
 Pk c (.bool true) undef d fun b c=>
 a b c))/\
 ∀ f _ _ _ _ _ _ _ _ _:Value,∀ g:World,a f g->
 CondV f (
 R (.returned (.bool false)) g) (
 Bb .add 3 b (nn 1) g fun a f=>
 c a f/\d a f<d b e))) (
 Ln 9 p0 f fun a b=>
 Ca 64 [a,(nn 1),(nn 6)] b fun a b=>
 R (.returned a) b))
theorem pV (h:my p0 w R):CC 109 #[p0] w R:=
  aw (.seq none .leaf (.seq none (.seq none .leaf (.one (.loop [6] (.seq none .leaf (.seq none .leaf (.seq none (.one (.seq none .leaf (.seq (some [18]) .leaf .leaf))) .leaf)))))) .leaf)) [p0] bo Tryz.func109 (by kernel_rfl) (by kernel_rfl) h

def BN:V1:=fun p0 w R=>
 Ca 143 [p0] w fun a b=>
 Ex a 0 3 b fun b c=>
 Ex a 1 4 c fun _ a=>
 Bb .gtr 3 b (nn 0) a fun a b=>
 R (.returned a) b
theorem Dp (h:BN p0 w R):CC 110 #[p0] w R:=
  aw .leaf [p0] bo Tryz.func110 (by kernel_rfl) (by kernel_rfl) h

def gi:V2:=fun p0 p1 w R=>
 Ca 144 [p0,p1] w fun a b=>
 Bb .geq 3 a (nn 0) b fun a b=>
 R (.returned a) b
theorem je (h:gi p0 p1 w R):CC 111 #[p0,p1] w R:=
  aw .leaf [p0,p1] bo Tryz.func111 (by kernel_rfl) (by kernel_rfl) h

def vm:V1:=fun p0 w R=>
 Bx 36 p0 w fun a b=>
 Ld 36 a b fun b c=>
 Ca 85 [b] c fun b c=>
 ((fun d:VW=>ag b false (
 Ld 36 a c fun a c=>
 Ca 81 [a] c fun a c=>
 Pk b (.bool true) a c fun a b=>d a b) (
 Pk b (.bool true) undef c fun a b=>d a b)) fun b c=>
 ag b false (
 Fd 36 a 0 c fun c d=>
 Ld 3 c d fun c d=>
 Bb .eql 3 c (nn 3) d fun c d=>
 ag c true (
 Fd 36 a 2 d fun d e=>
 Ld 9 d e fun d e=>
 Fd 36 a 3 e fun a e=>
 Ld 34 a e fun a e=>
 Ln 34 a e fun a e=>
 Ca 82 [d,a] e fun a d=>
 ag b false (
 Pk c a (.bool false) d fun a c=>
 Pk b (.bool true) a c fun a b=>
 R (.returned a) b) (
 Pk b (.bool true) undef d fun a b=>
 R (.returned a) b)) (
 ag b false (
 Pk c undef (.bool false) d fun a c=>
 Pk b (.bool true) a c fun a b=>
 R (.returned a) b) (
 Pk b (.bool true) undef d fun a b=>
 R (.returned a) b))) (
 ag undef true (
 Fd 36 a 2 c fun c d=>
 Ld 9 c d fun c d=>
 Fd 36 a 3 d fun a d=>
 Ld 34 a d fun a d=>
 Ln 34 a d fun a d=>
 Ca 82 [c,a] d fun a c=>
 ag b false (
 Pk undef a (.bool false) c fun a c=>
 Pk b (.bool true) a c fun a b=>
 R (.returned a) b) (
 Pk b (.bool true) undef c fun a b=>
 R (.returned a) b)) (
 ag b false (
 Pk undef undef (.bool false) c fun a c=>
 Pk b (.bool true) a c fun a b=>
 R (.returned a) b) (
 Pk b (.bool true) undef c fun a b=>
 R (.returned a) b))))
theorem wY (h:vm p0 w R):CC 113 #[p0] w R:=
  aw .leaf [p0] bo Tryz.func113 (by kernel_rfl) (by kernel_rfl) h

def rV:V2:=fun p0 p1 w R=>
 Bx 36 p0 w fun a b=>
 (∃ c:QP1,(
 Bb .lss 3 p1 (nn 1) b fun b d=>
 ag b false (
 Ld 36 a d fun a d=>
 Ca 145 [a] d fun a d=>
 Nt a d fun a d=>
 Pk b (.bool true) a d fun a b=>
 c a b) (
 Pk b (.bool true) undef d fun a b=>
 c a b))/\
 ∀ b _ _ _ _ _ _:Value,∀ d:World,c b d->
 CondV b (
 R (.returned (.bool false)) d) (
 (∃ (b:QP1) (c:QN1),b (nn 0) d/\
 ∀ d _ _ _ _ _ _ _ _ _ _ _ _ _ _ _ _ _:Value,∀ e:World,b d e->
 Fd 36 a 3 e fun f g=>
 Ld 34 f g fun f g=>
 Ln 34 f g fun f g=>
 Ba .lss 3 d f g fun f g=>
 CondV f (
 Fd 36 a 3 g fun a f=>
 Ld 34 a f fun a f=>
 Ia 34 a d f fun a f=>
 Ld 36 a f fun a f=>
 Bb .sub 3 p1 (nn 1) f fun f g=>
 Ca 114 [a,f] g fun a f=>
 Nt a f fun a f=>
 CondV a (
 R (.returned (.bool false)) f) (
 Bb .add 3 d (nn 1) f fun a f=>
 b a f/\c a f<c d e)) (
 R (.returned (.bool true)) g))))
theorem wi (h:rV p0 p1 w R):CC 114 #[p0,p1] w R:=
  aw (.seq none .leaf (.seq none (.seq (some [12]) .leaf .leaf) (.seq none (.seq none .leaf (.one (.loop [5] .leaf))) .leaf))) [p0,p1] bo Tryz.func114 (by kernel_rfl) (by kernel_rfl) h

def pR:V2:=fun p0 p1 w R=>
 Bx 36 p0 w fun a b=>
 (∃ (c:QP2) (d:QN2),c (nn 0) (nn 1) b/\
 ∀ b _ _ e _ _ _ _ _ _ _ _ _ _ _ _ _ _ _ _ _ _ _ _ _:Value,∀ f:World,c b e f->
 (∃ g:QP1,(
 Fd 36 a 3 f fun a c=>
 Ld 34 a c fun a c=>
 Ln 34 a c fun a c=>
 Ba .lss 3 b a c fun a b=>
 ag a true (
 Ba .leq 3 e p1 b fun b c=>
 Pk a b (.bool false) c fun a b=>
 g a b) (
 Pk a undef (.bool false) b fun a b=>
 g a b))/\
 ∀ h _ _ _ _ _ _ _ _ _:Value,∀ i:World,g h i->
 CondV h (
 Fd 36 a 3 i fun a g=>
 Ld 34 a g fun a g=>
 Ia 34 a b g fun a g=>
 Ld 36 a g fun a g=>
 Ba .sub 3 p1 e g fun g h=>
 Ca 115 [a,g] h fun a g=>
 Ba .add 3 e a g fun a g=>
 Bb .add 3 b (nn 1) g fun g h=>
 c g a h/\d g a h<d b e f) (
 R (.returned e) i)))
theorem vp (h:pR p0 p1 w R):CC 115 #[p0,p1] w R:=
  aw (.seq none .leaf (.seq none .leaf (.seq none (.seq none .leaf (.one (.loop [6,5] (.seq none (.seq (some [16]) .leaf .leaf) .leaf)))) .leaf))) [p0,p1] bo Tryz.func115 (by kernel_rfl) (by kernel_rfl) h

def uy:V1:=fun p0 w R=>
 (∃ (a:QP1) (b:QN1),a (nn 0) w/\
 ∀ c _ _ _ _ _ _ _ _ _ _ _ _ _ _ _ _ _:Value,∀ d:World,a c d->
 Ln 9 p0 d fun e f=>
 Ba .lss 3 c e f fun e f=>
 CondV e (
 (∃ e:QP1,(
 Ix 9 p0 c 5 f fun a b=>
 Bb .lss 5 a (.int .u8 97) b fun a b=>
 ag a false (
 Ix 9 p0 c 5 b fun b c=>
 Bb .gtr 5 b (.int .u8 122) c fun b c=>
 Pk a (.bool true) b c fun a b=>
 e a b) (
 Pk a (.bool true) undef b fun a b=>
 e a b))/\
 ∀ f _ _ _ _ _ _ _ _ _:Value,∀ g:World,e f g->
 CondV f (
 R (.returned (.bool false)) g) (
 Bb .add 3 c (nn 1) g fun e f=>
 a e f/\b e f<b c d))) (
 Ln 9 p0 f fun a b=>
 Bb .geq 3 a (nn 1) b fun a b=>
 ag a true (
 Ln 9 p0 b fun b c=>
 Bb .leq 3 b (nn 6) c fun b c=>
 Pk a b (.bool false) c fun a b=>
 R (.returned a) b) (
 Pk a undef (.bool false) b fun a b=>
 R (.returned a) b)))
theorem yg (h:uy p0 w R):CC 116 #[p0] w R:=
  aw (.seq none .leaf (.seq none (.seq none .leaf (.one (.loop [3] (.seq none .leaf (.seq none (.one (.seq (some [19]) .leaf .leaf)) .leaf))))) .leaf)) [p0] bo Tryz.func116 (by kernel_rfl) (by kernel_rfl) h

def qI:V1:=fun p0 w R=>
 (∃ a:QP1,(
 Bb .eql 9 p0 (.string ⟨#[61]⟩) w fun b c=>
 CondV b (
 a b c) (
 Bb .eql 9 p0 (.string ⟨#[92,61]⟩) c fun b c=>
 CondV b (
 a b c) (
 Bb .eql 9 p0 (.string ⟨#[61,61]⟩) c fun b c=>
 CondV b (
 a b c) (
 Bb .eql 9 p0 (.string ⟨#[60]⟩) c fun b c=>
 CondV b (
 a b c) (
 Bb .eql 9 p0 (.string ⟨#[62]⟩) c fun b c=>
 CondV b (
 a b c) (
 Bb .eql 9 p0 (.string ⟨#[61,60]⟩) c fun b c=>
 CondV b (
 a b c) (
 Bb .eql 9 p0 (.string ⟨#[62,61]⟩) c fun b c=>
 CondV b (
 a b c) (
 Bb .eql 9 p0 (.string ⟨#[61,58,61]⟩) c fun b c=>
 CondV b (
 a b c) (
 Bb .eql 9 p0 (.string ⟨#[105,115]⟩) c fun b c=>
 a b c)))))))))/\
 ∀ _ _ _ _ _ _ _ _ b _:Value,∀ c:World,a b c->
 CondV b (
 R (.returned (nn 3)) c) (
 (∃ a:QP1,(
 Bb .eql 9 p0 (.string ⟨#[43]⟩) c fun b c=>
 CondV b (
 a b c) (
 Bb .eql 9 p0 (.string ⟨#[45]⟩) c fun b c=>
 a b c))/\
 ∀ _ b _:Value,∀ c:World,a b c->
 CondV b (
 R (.returned (nn 2)) c) (
 (∃ a:QP1,(
 Bb .eql 9 p0 (.string ⟨#[42]⟩) c fun b c=>
 CondV b (
 a b c) (
 Bb .eql 9 p0 (.string ⟨#[47,47]⟩) c fun b c=>
 CondV b (
 a b c) (
 Bb .eql 9 p0 (.string ⟨#[109,111,100]⟩) c fun b c=>
 a b c)))/\
 ∀ _ _ b _:Value,∀ c:World,a b c->
 CondV b (
 R (.returned (nn 1)) c) (
 R (.returned (nn 0)) c))))))
theorem wd (h:qI p0 w R):CC 117 #[p0] w R:=
  aw (.seq none .leaf (.seq none (.seq none .leaf (.one (.seq (some [4]) .leaf (.two .leaf (.seq (some [14]) .leaf (.two .leaf (.seq (some [17]) .leaf .leaf))))))) .leaf)) [p0] bo Tryz.func117 (by kernel_rfl) (by kernel_rfl) h

def oC:V2:=fun p0 p1 w R=>
 Bx 36 p0 w fun a b=>
 Bx 36 p1 b fun b c=>
 (∃ d:QP1,(
 Fd 36 a 0 c fun c e=>
 Ld 3 c e fun c e=>
 Fd 36 b 0 e fun e f=>
 Ld 3 e f fun e f=>
 Ba .neq 3 c e f fun c e=>
 ((fun d:VW=>ag c false (
 Fd 36 a 1 e fun a e=>
 Ld 3 a e fun a e=>
 Fd 36 b 1 e fun b e=>
 Ld 3 b e fun b e=>
 Ba .neq 3 a b e fun a b=>
 Pk c (.bool true) a b fun a b=>d a b) (
 Pk c (.bool true) undef e fun a b=>d a b)) fun c e=>
 ((fun d:VW=>ag c false (
 Fd 36 a 2 e fun a e=>
 Ld 9 a e fun a e=>
 Fd 36 b 2 e fun b e=>
 Ld 9 b e fun b e=>
 Ba .neq 9 a b e fun a b=>
 Pk c (.bool true) a b fun a b=>d a b) (
 Pk c (.bool true) undef e fun a b=>d a b)) fun c e=>
 ag c false (
 Fd 36 a 3 e fun a e=>
 Ld 34 a e fun a e=>
 Ln 34 a e fun a e=>
 Fd 36 b 3 e fun b e=>
 Ld 34 b e fun b e=>
 Ln 34 b e fun b e=>
 Ba .neq 3 a b e fun a b=>
 Pk c (.bool true) a b fun a b=>
 d a b) (
 Pk c (.bool true) undef e fun a b=>
 d a b))))/\
 ∀ c _ _ _ _ _ _ _ _ _ _ _ _ _ _ _ _ _ _ _ _ _ _ _ _ _ _ _:Value,∀ e:World,d c e->
 CondV c (
 R (.returned (.bool false)) e) (
 (∃ (c:QP1) (d:QN1),c (nn 0) e/\
 ∀ e _ _ _ f g h i j k l m n o p q _ _ _ _ _:Value,∀ r:World,c e r->
 Fd 36 a 3 r fun s t=>
 Ld 34 s t fun s t=>
 Ln 34 s t fun s t=>
 Ba .lss 3 e s t fun s t=>
 CondV s (
 (∃ s:NB->JK,s fF f g h i j k l m n o p q { t with drawn:=t.drawn+1 }/\(
 (∀ b:NB,b 0=false->∀ c d e f g h i j k l m n o,s b c d e f g h i j k l m n o->
 Fd 36 a 3 o fun a n=>
 s (ah b 0) c d e f g h i j k l m a n)/\
 (∀ a:NB,a 1=false->a 0=true->∀ b c d e f g h i j k l m n,s a b c d e f g h i j k l m n->
 Ld 34 m n fun l n=>
 s (ah a 1) b c d e f g h i j k l m n)/\
 (∀ a:NB,a 2=false->∀ b c d f g h i j k l m n o,s a b c d f g h i j k l m n o->
 s (ah a 2) b c d f g h i j k e m n o)/\
 (∀ a:NB,a 3=false->a 1=true->a 2=true->∀ b c d e f g h i j k l m n,s a b c d e f g h i j k l m n->
 Ia 34 l k n fun j n=>
 s (ah a 3) b c d e f g h i j k l m n)/\
 (∀ a:NB,a 4=false->a 3=true->∀ b c d e f g h i j k l m n,s a b c d e f g h i j k l m n->
 Ld 36 j n fun i n=>
 s (ah a 4) b c d e f g h i j k l m n)/\
 (∀ a:NB,a 5=false->∀ c d e f g h i j k l m n o,s a c d e f g h i j k l m n o->
 Fd 36 b 3 o fun b i=>
 s (ah a 5) c d e f g h b j k l m n i)/\
 (∀ a:NB,a 6=false->a 5=true->∀ b c d e f g h i j k l m n,s a b c d e f g h i j k l m n->
 Ld 34 h n fun g n=>
 s (ah a 6) b c d e f g h i j k l m n)/\
 (∀ a:NB,a 7=false->∀ b c d f g h i j k l m n o,s a b c d f g h i j k l m n o->
 s (ah a 7) b c d f e h i j k l m n o)/\
 (∀ a:NB,a 8=false->a 6=true->a 7=true->∀ b c d e f g h i j k l m n,s a b c d e f g h i j k l m n->
 Ia 34 g f n fun e n=>
 s (ah a 8) b c d e f g h i j k l m n)/\
 (∀ a:NB,a 9=false->a 8=true->∀ b c d e f g h i j k l m n,s a b c d e f g h i j k l m n->
 Ld 36 e n fun d n=>
 s (ah a 9) b c d e f g h i j k l m n)/\
 (∀ a:NB,a 10=false->a 4=true->a 9=true->∀ b c d e f g h i j k l m n,s a b c d e f g h i j k l m n->
 Ca 119 [i,d] n fun c n=>
 s (ah a 10) b c d e f g h i j k l m n)/\
 (∀ a:NB,a 11=false->a 10=true->∀ b c d e f g h i j k l m n,s a b c d e f g h i j k l m n->
 Nt c n fun b n=>
 s (ah a 11) b c d e f g h i j k l m n)/\
 True)/\
 ∀ a:NB,a 11=true->a 10=true->a 9=true->a 8=true->a 7=true->a 6=true->a 5=true->a 4=true->a 3=true->a 2=true->a 1=true->a 0=true->∀ b f g h i j k l m n o p q,s a b f g h i j k l m n o p q->
 CondV b (
 R (.returned (.bool false)) q) (
 Bb .add 3 e (nn 1) q fun a b=>
 c a b/\d a b<d e r))) (
 R (.returned (.bool true)) t))))
theorem sZ (h:oC p0 p1 w R):CC 119 #[p0,p1] w R:=
  aw (.seq none .leaf (.seq none (.seq (some [33]) .leaf .leaf) (.seq none (.seq none .leaf (.one (.loop [5] .leaf))) .leaf))) [p0,p1] bo Tryz.func119 (by kernel_rfl) (by kernel_rfl) h

def uH:V2:=fun p0 p1 w R=>
 RR (av 120 0 []) w fun a b=>
 (∃ (c:QP3) (d:QN3),c (nn 0) (nn 0) a b/\
 ∀ a _ _ b _ _ e _ _ _ _ _ _ _ _ _ _ _ _ _ _ _ _ _ _ _ _ _ _:Value,∀ f:World,c a b e f->
 Ln 9 p0 f fun g h=>
 Ba .leq 3 a g h fun g h=>
 CondV g (
 (∃ g:QP2,(
 (∃ c:QP1,(
 Ln 9 p0 h fun b d=>
 Ba .eql 3 a b d fun b d=>
 ag b false (
 Ix 9 p0 a 5 d fun a d=>
 Ba .eql 5 a p1 d fun a d=>
 Pk b (.bool true) a d fun a b=>
 c a b) (
 Pk b (.bool true) undef d fun a b=>
 c a b))/\
 ∀ d _ _ _ _ _ _ _ _ _ _:Value,∀ f:World,c d f->
 CondV d (
 RR (sOp (.slice 9 (.const p0) (some (.const b)) (some (.const a)) none) 9) f fun b c=>
 RR (av 120 1 [(0,b)]) c fun b c=>
 RR (bx .append #[120,120] 120 [false,false] [e,b]) c fun b c=>
 Bb .add 3 a (nn 1) c fun a c=>
 g a b c) (
 g b e f)))/\
 ∀ h _ _ i _ _ _ _ _ _ _ _ _ _ _ _ _ _ _ _ _ _:Value,∀ j:World,g h i j->
 Bb .add 3 a (nn 1) j fun g j=>
 c g h i j/\d g h i j<d a b e f)) (
 R (.returned e) h))
theorem xO (h:uH p0 p1 w R):CC 129 #[p0,p1] w R:=
  aw (.seq none .leaf (.seq none .leaf (.seq none .leaf (.seq none (.seq none .leaf (.one (.loop [7,6,5] (.seq none .leaf (.seq (some [6,5]) (.one (.seq (some [25]) .leaf .leaf)) .leaf))))) .leaf)))) [p0,p1] bo Tryz.func129 (by kernel_rfl) (by kernel_rfl) h

def j5:V1:=fun p0 w R=>
 Al 56 w fun a b=>
 Ln 9 p0 b fun b c=>
 Bb .gtr 3 b (nn 1000) c fun b c=>
 CondV b (
 RR (bD 56 []) c fun b c=>
 St 56 a b c fun _ b=>
 (aO Tryz.prog 56 a b fun a=>R (.returned (.tuple #[a,(.bool false)])) b)) (
 Ca 131 [p0,(nn 0),(nn 30),(nn 3)] c fun b c=>
 Ex b 0 36 c fun c d=>
 Ex b 1 3 d fun b d=>
 Al 36 d fun d e=>
 St 36 d c e fun _ c=>
 Bb .lss 3 b (nn 0) c fun c e=>
 CondV c (
 RR (bD 56 []) e fun b c=>
 St 56 a b c fun _ b=>
 (aO Tryz.prog 56 a b fun a=>R (.returned (.tuple #[a,(.bool false)])) b)) (
 Ld 36 d e fun c d=>
 RR (bD 56 [(0,c)]) d fun c d=>
 Al 56 d fun d e=>
 St 56 d c e fun _ c=>
 (∃ e:QP1,(
 (∃ a:QP1,(
 Ca 151 [p0,b,(.int .u8 58)] c fun c d=>
 ag c true (
 Bb .add 3 b (nn 1) d fun b d=>
 Ca 151 [p0,b,(.int .u8 45)] d fun b d=>
 Pk c b (.bool false) d fun b c=>
 a b c) (
 Pk c undef (.bool false) d fun b c=>
 a b c))/\
 ∀ c _ _ _ _ _ _ _ _:Value,∀ f:World,a c f->
 CondV c (
 Bb .add 3 b (nn 2) f fun a b=>
 Ca 152 [p0,a] b fun a b=>
 Ex a 0 34 b fun b c=>
 Ex a 1 3 c fun a c=>
 Fd 56 d 1 c fun c d=>
 St 34 c b d fun _ b=>
 e a b) (
 e b f)))/\
 ∀ b _ _ _ _ _ _ _ _ _ _ _ _ _ _ _ _ _:Value,∀ c:World,e b c->
 (∃ e:QP1,(
 Ln 9 p0 c fun a c=>
 Bb .sub 3 a (nn 1) c fun a c=>
 Ba .neq 3 b a c fun a c=>
 ((fun d:VW=>ag a false (
 Ca 151 [p0,b,(.int .u8 46)] c fun b c=>
 Nt b c fun b c=>
 Pk a (.bool true) b c fun a b=>d a b) (
 Pk a (.bool true) undef c fun a b=>d a b)) fun a b=>
 ag a false (
 Ld 56 d b fun b c=>
 Ca 153 [b] c fun b c=>
 Ba .neq 9 b p0 c fun b c=>
 Pk a (.bool true) b c fun a b=>
 e a b) (
 Pk a (.bool true) undef b fun a b=>
 e a b)))/\
 ∀ b _ _ _ _ _ _ _ _ _ _ _ _ _ _ _ _:Value,∀ c:World,e b c->
 CondV b (
 RR (bD 56 []) c fun b c=>
 St 56 a b c fun _ b=>
 (aO Tryz.prog 56 a b fun a=>R (.returned (.tuple #[a,(.bool false)])) b)) (
 Ld 56 d c fun b c=>
 Ca 103 [b] c fun b c=>
 St 56 a b c fun _ b=>
 (aO Tryz.prog 56 a b fun a=>R (.returned (.tuple #[a,(.bool true)])) b))))))
theorem nQ (h:j5 p0 w R):CC 130 #[p0] w R:=
  aw (.seq none .leaf (.seq none .leaf (.seq none .leaf (.seq none .leaf (.seq none .leaf (.seq (some [5]) (.seq (some [29]) .leaf .leaf) (.seq none (.seq (some [54]) .leaf .leaf) .leaf))))))) [p0] bo Tryz.func130 (by kernel_rfl) (by kernel_rfl) h

def vg:V4:=fun p0 p1 p2 p3 w R=>
 Al 36 w fun a b=>
 Bb .eql 3 p3 (nn 0) b fun b c=>
 CondV b (
 Ca 154 [p0,p1,p2] c fun b c=>
 Ex b 0 36 c fun c d=>
 Ex b 1 3 d fun b d=>
 St 36 a c d fun _ c=>
 (aO Tryz.prog 36 a c fun a=>R (.returned (.tuple #[a,b])) c)) (
 Bb .sub 3 p3 (nn 1) c fun b c=>
 Ca 131 [p0,p1,p2,b] c fun b c=>
 Ex b 0 36 c fun c d=>
 Ex b 1 3 d fun b d=>
 Al 36 d fun d e=>
 St 36 d c e fun _ c=>
 (∃ (e:QP1) (f:QN1),e b c/\
 ∀ _ _ _ _ b _ _ _ _ _ _ _ _ _ _ _ _ _ _ _ _ _ _ _ _ _ _ _ _ _ _ _ _ _ _ _ _ _ _ _ _ _ _ _ _ _ _:Value,∀ c:World,e b c->
 Bb .geq 3 b (nn 0) c fun g h=>
 CondV g (
 Ca 155 [p0,b] h fun g h=>
 Ex g 0 9 h fun h i=>
 Ex g 1 3 i fun g i=>
 (∃ j:QP1,(
 Bb .eql 9 h (.string ⟨#[]⟩) i fun a b=>
 ag a false (
 Ca 117 [h] b fun b c=>
 Ba .neq 3 b p3 c fun b c=>
 Pk a (.bool true) b c fun a b=>
 j a b) (
 Pk a (.bool true) undef b fun a b=>
 j a b))/\
 ∀ i _ _ _ _ _ _ _:Value,∀ k:World,j i k->
 CondV i (
 Ld 36 d k fun c d=>
 St 36 a c d fun _ c=>
 (aO Tryz.prog 36 a c fun a=>R (.returned (.tuple #[a,b])) c)) (
 Bb .sub 3 p3 (nn 1) k fun i j=>
 Ca 131 [p0,g,p2,i] j fun g i=>
 Ex g 0 36 i fun i j=>
 Ex g 1 3 j fun g j=>
 Al 36 j fun j k=>
 St 36 j i k fun _ i=>
 Bb .lss 3 g (nn 0) i fun i k=>
 CondV i (
 RR (bD 36 []) k fun b c=>
 St 36 a b c fun _ b=>
 (aO Tryz.prog 36 a b fun a=>R (.returned (.tuple #[a,g])) b)) (
 Ld 36 d k fun i k=>
 Ld 36 j k fun j k=>
 RR (av 34 2 [(0,i),(1,j)]) k fun i j=>
 Ca 70 [h,i] j fun h i=>
 St 36 d h i fun _ h=>
 Bb .eql 3 p3 (nn 3) h fun h i=>
 CondV h (
 Ld 36 d i fun b c=>
 St 36 a b c fun _ b=>
 (aO Tryz.prog 36 a b fun a=>R (.returned (.tuple #[a,g])) b)) (
 e g i/\f g i<f b c))))) (
 RR (bD 36 []) h fun c d=>
 St 36 a c d fun _ c=>
 (aO Tryz.prog 36 a c fun a=>R (.returned (.tuple #[a,b])) c))))
theorem xk (h:vg p0 p1 p2 p3 w R):CC 131 #[p0,p1,p2,p3] w R:=
  aw (.seq none .leaf (.seq none .leaf (.seq none .leaf (.seq none (.one (.loop [11] (.seq none .leaf (.one (.seq none .leaf (.seq none (.seq (some [48]) .leaf .leaf) .leaf)))))) .leaf)))) [p0,p1,p2,p3] bo Tryz.func131 (by kernel_rfl) (by kernel_rfl) h

def rR:V1:=fun p0 w R=>
 Ca 156 [] w fun a b=>
 Ln 120 a b fun b c=>
 Ca 47 [p0,b] c fun b c=>
 Ia 120 a b c fun a b=>
 Ld 9 a b fun a b=>
 Ca 133 [a] b fun a b=>
 Ex a 0 34 b fun b c=>
 Ex a 1 4 c fun _ a=>
 R (.returned b) a
theorem vG (h:rR p0 w R):CC 132 #[p0] w R:=
  aw .leaf [p0] bo Tryz.func132 (by kernel_rfl) (by kernel_rfl) h

def lh:V1:=fun p0 w R=>
 Ln 9 p0 w fun a b=>
 Bb .gtr 3 a (nn 1000) b fun a b=>
 CondV a (
 RR (av 34 0 []) b fun a b=>
 R (.returned (.tuple #[a,(.bool false)])) b) (
 Ca 152 [p0,(nn 0)] b fun a b=>
 Ex a 0 34 b fun b c=>
 Ex a 1 3 c fun a c=>
 (∃ d:QP1,(
 Ln 9 p0 c fun c e=>
 Ba .neq 3 a c e fun a c=>
 ag a false (
 Ca 157 [b] c fun b c=>
 Nt b c fun b c=>
 Pk a (.bool true) b c fun a b=>
 d a b) (
 Pk a (.bool true) undef c fun a b=>
 d a b))/\
 ∀ a _ _ _ _ _ _ _ _:Value,∀ c:World,d a c->
 CondV a (
 RR (av 34 0 []) c fun a b=>
 R (.returned (.tuple #[a,(.bool false)])) b) (
 RR (av 34 0 []) c fun a c=>
 (∃ (d:QP2) (e:QN2),d (nn 0) a c/\
 ∀ a _ _ c _ _ _ _ _ _ _ _ _ _ _ _:Value,∀ f:World,d a c f->
 Ln 34 b f fun g h=>
 Ba .lss 3 a g h fun g h=>
 CondV g (
 Ia 34 b a h fun b g=>
 Ld 36 b g fun b g=>
 Ca 71 [b] g fun b g=>
 RR (av 34 1 [(0,b)]) g fun b g=>
 RR (bx .append #[34,34] 34 [false,false] [c,b]) g fun b g=>
 Bb .add 3 a (nn 1) g fun g h=>
 d g b h/\e g b h<e a c f) (
 R (.returned (.tuple #[c,(.bool true)])) h)))))
theorem pe (h:lh p0 w R):CC 133 #[p0] w R:=
  aw (.seq none .leaf (.seq none .leaf (.seq none .leaf (.seq none (.seq (some [25]) .leaf .leaf) (.seq none .leaf (.seq none (.seq none .leaf (.one (.loop [7,6] .leaf))) .leaf)))))) [p0] bo Tryz.func133 (by kernel_rfl) (by kernel_rfl) h

def qG:V4:=fun p0 p1 p2 p3 w R=>
 RR (av 127 0 []) w fun a b=>
 (∃ (c:QP2) (d:QN2),c (nn 0) a b/\
 ∀ a _ _ b _ _ _ _ _ _ _ _ _ _ _ _ _ _ _:Value,∀ e:World,c a b e->
 Ln 34 p0 e fun f g=>
 Ba .lss 3 a f g fun f g=>
 CondV f (
 Ia 34 p0 a g fun f g=>
 Ld 36 f g fun f g=>
 Ca 158 [f,p1] g fun f g=>
 RR (bD 175 [(0,f),(1,p2)]) g fun f g=>
 RR (av 127 1 [(0,f)]) g fun f g=>
 RR (bx .append #[127,127] 127 [false,false] [b,f]) g fun f g=>
 Bb .add 3 a (nn 1) g fun g h=>
 c g f h/\d g f h<d a b e) (
 RR (bx .append #[127,127] 127 [false,false] [b,p3]) g fun a b=>
 R (.returned a) b))
theorem wD (h:qG p0 p1 p2 p3 w R):CC 134 #[p0,p1,p2,p3] w R:=
  aw (.seq none .leaf (.seq none .leaf (.seq none (.seq none .leaf (.one (.loop [10,9] .leaf))) .leaf))) [p0,p1,p2,p3] bo Tryz.func134 (by kernel_rfl) (by kernel_rfl) h

def pW:V2:=fun p0 p1 w R=>
 Bx 36 p0 w fun a b=>
 Al 36 b fun b c=>
 Ld 36 a c fun a c=>
 Ca 146 [a,p1,(nn 120)] c fun a c=>
 Ex a 0 36 c fun c d=>
 Ex a 1 3 d fun a d=>
 Al 36 d fun d e=>
 St 36 d c e fun _ c=>
 (∃ e:NB->QP8,e fF (.bool false) undef undef undef undef undef undef undef { c with drawn:=c.drawn+1 }/\(
 (∀ a:NB,a 0=false->∀ b c f g h i j k l,e a b c f g h i j k l->
 Ld 36 d l fun d k=>
 e (ah a 0) b c f g h i j d k)/\
 (∀ b:NB,b 1=false->∀ c d f g h i j k l,e b c d f g h i j k l->
 e (ah b 1) c d f g h i a k l)/\
 (∀ a:NB,a 2=false->a 1=true->∀ b c d f g h i j k,e a b c d f g h i j k->
 Bb .geq 3 i (nn 0) k fun h k=>
 e (ah a 2) b c d f g h i j k)/\
 (∀ a:NB,a 3=false->a 2=true->∀ b c d f g h i j k,e a b c d f g h i j k->
 e (ah a 3) b c d f h h i j k)/\
 (∀ a:NB,a 4=false->a 3=true->∀ b c f g h i j k l,e a b c f g h i j k l->
 ag h true (Ld 36 d l fun d g=>
 e (ah a 4) b c f d h i j k g) (e (ah a 4) b c f undef h i j k l))/\
 (∀ a:NB,a 5=false->a 4=true->a 3=true->a 3=true->∀ b c d f g h i j k,e a b c d f g h i j k->
 ag g true (Ca 159 [f,(nn 30)] k fun d k=>
 e (ah a 5) b c d f g h i j k) (e (ah a 5) b c undef f g h i j k))/\
 (∀ a:NB,a 6=false->a 3=true->a 5=true->∀ b c d f g h i j k,e a b c d f g h i j k->
 Pk g d (.bool false) k fun c k=>
 e (ah a 6) b c d f g h i j k)/\
 (∀ a:NB,a 7=false->a 0=true->a 5=true->a 0=true->∀ c d f g h i j k l,e a c d f g h i j k l->
 St 36 b k l fun _ b=>
 e (ah a 7) c d f g h i j k b)/\
 (∀ a:NB,a 8=false->a 6=true->a 7=true->a 0=true->a 1=true->a 2=true->a 3=true->a 4=true->a 5=true->a 6=true->a 7=true->∀ b c d f g h i j k,e a b c d f g h i j k->
 e (ah a 8) c c d f g h i j k)/\
 True)/\
 ∀ a:NB,a 8=true->a 7=true->a 6=true->a 5=true->a 4=true->a 3=true->a 2=true->a 1=true->a 0=true->∀ c d f g h i j k l,e a c d f g h i j k l->
 (aO Tryz.prog 36 b l fun a=>R (.returned (.tuple #[a,c])) l))
theorem vu (h:pW p0 p1 w R):CC 135 #[p0,p1] w R:=
  aw .leaf [p0,p1] bo Tryz.func135 (by kernel_rfl) (by kernel_rfl) h

def sw:V3:=fun p0 p1 p2 w R=>
 Bx 135 p1 w fun a b=>
 Bx 180 p2 b fun b c=>
 Al 135 c fun c d=>
 Fd 135 a 0 d fun d e=>
 Ld 130 d e fun d e=>
 Ld 180 b e fun e f=>
 Ca 160 [p0,d,e] f fun d e=>
 Ex d 0 130 e fun e f=>
 Ex d 1 3 f fun f g=>
 Ex d 2 49 g fun g h=>
 Ex d 3 4 h fun d h=>
 Al 130 h fun h i=>
 St 130 h e i fun _ e=>
 Nt d e fun d e=>
 CondV d (
 Ld 135 a e fun a b=>
 St 135 c a b fun _ a=>
 (aO Tryz.prog 135 c a fun b=>R (.returned (.tuple #[b,(.bool false)])) a)) (
 (∃ d:NB->OB,d fF undef undef undef undef undef undef undef undef undef undef undef undef undef undef undef undef undef undef undef undef undef { e with drawn:=e.drawn+1 }/\(
 (∀ a:NB,a 0=false->∀ b c e f g i j k l m n o p q r s t u v x y z,d a b c e f g i j k l m n o p q r s t u v x y z->
 Ld 130 h z fun h y=>
 d (ah a 0) b c e f g i j k l m n o p q r s t u v x h y)/\
 (∀ a:NB,a 1=false->∀ b c e f g h i j k l m n o p q r s t u v x y,d a b c e f g h i j k l m n o p q r s t u v x y->
 RR (av 132 0 []) y fun v y=>
 d (ah a 1) b c e f g h i j k l m n o p q r s t u v x y)/\
 (∀ b:NB,b 2=false->∀ c e f g h i j k l m n o p q r s t u v x y z,d b c e f g h i j k l m n o p q r s t u v x y z->
 Fd 135 a 1 z fun a v=>
 d (ah b 2) c e f g h i j k l m n o p q r s t u a x y v)/\
 (∀ a:NB,a 3=false->a 2=true->∀ b c e f g h i j k l m n o p q r s t u v x y,d a b c e f g h i j k l m n o p q r s t u v x y->
 Ld 132 u y fun t y=>
 d (ah a 3) b c e f g h i j k l m n o p q r s t u v x y)/\
 (∀ a:NB,a 4=false->a 1=true->a 3=true->∀ b c e f g h i j k l m n o p q r s t u v x y,d a b c e f g h i j k l m n o p q r s t u v x y->
 RR (bx .append #[132,132] 132 [false,false] [v,t]) y fun s y=>
 d (ah a 4) b c e f g h i j k l m n o p q r s t u v x y)/\
 (∀ a:NB,a 5=false->∀ c e f g h i j k l m n o p q r s t u v x y z,d a c e f g h i j k l m n o p q r s t u v x y z->
 Fd 180 b 0 z fun b s=>
 d (ah a 5) c e f g h i j k l m n o p q r b t u v x y s)/\
 (∀ a:NB,a 6=false->a 5=true->∀ b c e f g h i j k l m n o p q r s t u v x y,d a b c e f g h i j k l m n o p q r s t u v x y->
 Ld 36 r y fun q y=>
 d (ah a 6) b c e f g h i j k l m n o p q r s t u v x y)/\
 (∀ a:NB,a 7=false->∀ b c e g h i j k l m n o p q r s t u v x y z,d a b c e g h i j k l m n o p q r s t u v x y z->
 d (ah a 7) b c e g h i j k l m n o p f r s t u v x y z)/\
 (∀ a:NB,a 8=false->∀ b c e f g h i j k l m n o p q r s t u v x y,d a b c e f g h i j k l m n o p q r s t u v x y->
 d (ah a 8) b c e f g h i j k l m n p0 p q r s t u v x y)/\
 (∀ a:NB,a 9=false->∀ b c e g h i j k l m n o p q r s t u v x y z,d a b c e g h i j k l m n o p q r s t u v x y z->
 d (ah a 9) b c e g h i j k l m n f p q r s t u v x y z)/\
 (∀ a:NB,a 10=false->a 8=true->a 9=true->∀ b c e f g h i j k l m n o p q r s t u v x y,d a b c e f g h i j k l m n o p q r s t u v x y->
 Ia 32 o n y fun m y=>
 d (ah a 10) b c e f g h i j k l m n o p q r s t u v x y)/\
 (∀ a:NB,a 11=false->a 10=true->∀ b c e f g h i j k l m n o p q r s t u v x y,d a b c e f g h i j k l m n o p q r s t u v x y->
 Fd 56 m 1 y fun l y=>
 d (ah a 11) b c e f g h i j k l m n o p q r s t u v x y)/\
 (∀ a:NB,a 12=false->a 11=true->∀ b c e f g h i j k l m n o p q r s t u v x y,d a b c e f g h i j k l m n o p q r s t u v x y->
 Ld 34 l y fun k y=>
 d (ah a 12) b c e f g h i j k l m n o p q r s t u v x y)/\
 (∀ a:NB,a 13=false->a 12=true->∀ b c e f g h i j k l m n o p q r s t u v x y,d a b c e f g h i j k l m n o p q r s t u v x y->
 Ln 34 k y fun j y=>
 d (ah a 13) b c e f g h i j k l m n o p q r s t u v x y)/\
 (∀ a:NB,a 14=false->a 6=true->a 7=true->a 13=true->∀ b c e f g h i j k l m n o p q r s t u v x y,d a b c e f g h i j k l m n o p q r s t u v x y->
 RR (bD 183 [(0,q),(1,p),(2,j)]) y fun i y=>
 d (ah a 14) b c e f g h i j k l m n o p q r s t u v x y)/\
 (∀ a:NB,a 15=false->a 14=true->∀ b c e f g h i j k l m n o p q r s t u v x y,d a b c e f g h i j k l m n o p q r s t u v x y->
 RR (av 132 1 [(0,i)]) y fun h y=>
 d (ah a 15) b c e f g h i j k l m n o p q r s t u v x y)/\
 (∀ a:NB,a 16=false->a 4=true->a 15=true->a 4=true->∀ b c e f g h i j k l m n o p q r s t u v x y,d a b c e f g h i j k l m n o p q r s t u v x y->
 RR (bx .append #[132,132] 132 [false,false] [s,h]) y fun g y=>
 d (ah a 16) b c e f g h i j k l m n o p q r s t u v x y)/\
 (∀ b:NB,b 17=false->∀ c e f g h i j k l m n o p q r s t u v x y z,d b c e f g h i j k l m n o p q r s t u v x y z->
 Fd 135 a 2 z fun a g=>
 d (ah b 17) c e f a h i j k l m n o p q r s t u v x y g)/\
 (∀ a:NB,a 18=false->a 17=true->∀ b c e f g h i j k l m n o p q r s t u v x y,d a b c e f g h i j k l m n o p q r s t u v x y->
 Ld 133 f y fun e y=>
 d (ah a 18) b c e f g h i j k l m n o p q r s t u v x y)/\
 (∀ a:NB,a 19=false->a 0=true->a 16=true->a 18=true->∀ b c e f g h i j k l m n o p q r s t u v x y,d a b c e f g h i j k l m n o p q r s t u v x y->
 RR (bD 135 [(0,x),(1,g),(2,e)]) y fun c y=>
 d (ah a 19) b c e f g h i j k l m n o p q r s t u v x y)/\
 (∀ a:NB,a 20=false->∀ b c e f g h i j k l m n o p q r s t u v x y,d a b c e f g h i j k l m n o p q r s t u v x y->
 Al 135 y fun b y=>
 d (ah a 20) b c e f g h i j k l m n o p q r s t u v x y)/\
 (∀ a:NB,a 21=false->a 20=true->a 19=true->a 16=true->a 0=true->a 1=true->a 2=true->a 3=true->a 4=true->a 5=true->a 6=true->a 7=true->a 8=true->a 9=true->a 10=true->a 11=true->a 12=true->a 13=true->a 14=true->a 15=true->a 16=true->a 17=true->a 18=true->a 19=true->a 20=true->∀ b c e f g h i j k l m n o p q r s t u v x y,d a b c e f g h i j k l m n o p q r s t u v x y->
 St 135 b c y fun _ y=>
 d (ah a 21) b c e f g h i j k l m n o p q r s t u v x y)/\
 True)/\
 ∀ e:NB,e 21=true->e 20=true->e 19=true->e 18=true->e 17=true->e 16=true->e 15=true->e 14=true->e 13=true->e 12=true->e 11=true->e 10=true->e 9=true->e 8=true->e 7=true->e 6=true->e 5=true->e 4=true->e 3=true->e 2=true->e 1=true->e 0=true->∀ f h i j k l m n o p q r s t u v x y z A B C,d e f h i j k l m n o p q r s t u v x y z A B C->
 (∃ d:World->Prop,(
 Ln 49 g C fun c e=>
 Bb .gtr 3 c (nn 0) e fun c e=>
 CondV c (
 Ld 180 b e fun b c=>
 Al 180 c fun c e=>
 St 180 c b e fun _ b=>
 Fd 180 c 2 b fun b e=>
 St 49 b g e fun _ b=>
 (∃ e:NB->Nc,e fF undef undef undef undef undef undef undef undef undef undef { b with drawn:=b.drawn+1 }/\(
 (∀ a:NB,a 0=false->∀ b c d f g h i j k l m,e a b c d f g h i j k l m->
 RR (av 128 0 []) m fun l m=>
 e (ah a 0) b c d f g h i j k l m)/\
 (∀ b:NB,b 1=false->∀ c d f g h i j k l m n,e b c d f g h i j k l m n->
 Fd 135 a 0 n fun a l=>
 e (ah b 1) c d f g h i j k a m l)/\
 (∀ a:NB,a 2=false->a 1=true->∀ b c d f g h i j k l m,e a b c d f g h i j k l m->
 Fd 130 k 2 m fun j m=>
 e (ah a 2) b c d f g h i j k l m)/\
 (∀ a:NB,a 3=false->a 2=true->∀ b c d f g h i j k l m,e a b c d f g h i j k l m->
 Ld 128 j m fun i m=>
 e (ah a 3) b c d f g h i j k l m)/\
 (∀ a:NB,a 4=false->a 0=true->a 3=true->∀ b c d f g h i j k l m,e a b c d f g h i j k l m->
 RR (bx .append #[128,128] 128 [false,false] [l,i]) m fun h m=>
 e (ah a 4) b c d f g h i j k l m)/\
 (∀ a:NB,a 5=false->∀ b d f g h i j k l m n,e a b d f g h i j k l m n->
 Ld 180 c n fun c h=>
 e (ah a 5) b d f g c i j k l m h)/\
 (∀ a:NB,a 6=false->a 5=true->∀ b c d f g h i j k l m,e a b c d f g h i j k l m->
 RR (av 128 1 [(0,g)]) m fun f m=>
 e (ah a 6) b c d f g h i j k l m)/\
 (∀ a:NB,a 7=false->a 4=true->a 6=true->a 4=true->∀ b c d f g h i j k l m,e a b c d f g h i j k l m->
 RR (bx .append #[128,128] 128 [false,false] [h,f]) m fun d m=>
 e (ah a 7) b c d f g h i j k l m)/\
 (∀ a:NB,a 8=false->a 0=true->a 1=true->a 2=true->a 3=true->a 4=true->a 5=true->a 6=true->a 7=true->∀ b c d g h i j k l m n,e a b c d g h i j k l m n->
 Fd 135 f 0 n fun c f=>
 e (ah a 8) b c d g h i j k l m f)/\
 (∀ a:NB,a 9=false->a 8=true->a 0=true->a 1=true->a 2=true->a 3=true->a 4=true->a 5=true->a 6=true->a 7=true->∀ b c d f g h i j k l m,e a b c d f g h i j k l m->
 Fd 130 c 2 m fun b m=>
 e (ah a 9) b c d f g h i j k l m)/\
 (∀ a:NB,a 10=false->a 9=true->a 7=true->a 7=true->a 0=true->a 1=true->a 2=true->a 3=true->a 4=true->a 5=true->a 6=true->a 7=true->∀ b c d f g h i j k l m,e a b c d f g h i j k l m->
 St 128 b d m fun _ m=>
 e (ah a 10) b c d f g h i j k l m)/\
 True)/\
 ∀ b:NB,b 10=true->b 9=true->b 8=true->b 7=true->b 6=true->b 5=true->b 4=true->b 3=true->b 2=true->b 1=true->b 0=true->∀ c g h i j k l m n o p,e b c g h i j k l m n o p->
 (∃ b:NB->QP9,b fF undef undef undef undef undef undef undef undef undef { p with drawn:=p.drawn+1 }/\(
 (∀ a:NB,a 0=false->∀ c d e f g h i j k l,b a c d e f g h i j k l->
 RR (av 133 0 []) l fun k l=>
 b (ah a 0) c d e f g h i j k l)/\
 (∀ c:NB,c 1=false->∀ d e f g h i j k l m,b c d e f g h i j k l m->
 Fd 135 a 2 m fun a k=>
 b (ah c 1) d e f g h i j a l k)/\
 (∀ a:NB,a 2=false->a 1=true->∀ c d e f g h i j k l,b a c d e f g h i j k l->
 Ld 133 j l fun i l=>
 b (ah a 2) c d e f g h i j k l)/\
 (∀ a:NB,a 3=false->a 0=true->a 2=true->∀ c d e f g h i j k l,b a c d e f g h i j k l->
 RR (bx .append #[133,133] 133 [false,false] [k,i]) l fun h l=>
 b (ah a 3) c d e f g h i j k l)/\
 (∀ c:NB,c 4=false->∀ d e f g h i j k l m,b c d e f g h i j k l m->
 Fd 135 a 1 m fun a h=>
 b (ah c 4) d e f g a i j k l h)/\
 (∀ a:NB,a 5=false->a 4=true->∀ c d e f g h i j k l,b a c d e f g h i j k l->
 Ld 132 g l fun f l=>
 b (ah a 5) c d e f g h i j k l)/\
 (∀ a:NB,a 6=false->a 5=true->∀ c d e f g h i j k l,b a c d e f g h i j k l->
 RR (av 133 1 [(0,f)]) l fun e l=>
 b (ah a 6) c d e f g h i j k l)/\
 (∀ a:NB,a 7=false->a 3=true->a 6=true->a 3=true->∀ c d e f g h i j k l,b a c d e f g h i j k l->
 RR (bx .append #[133,133] 133 [false,false] [h,e]) l fun d l=>
 b (ah a 7) c d e f g h i j k l)/\
 (∀ a:NB,a 8=false->a 0=true->a 1=true->a 2=true->a 3=true->a 4=true->a 5=true->a 6=true->a 7=true->∀ c d e g h i j k l m,b a c d e g h i j k l m->
 Fd 135 f 2 m fun c f=>
 b (ah a 8) c d e g h i j k l f)/\
 (∀ a:NB,a 9=false->a 8=true->a 7=true->a 7=true->a 0=true->a 1=true->a 2=true->a 3=true->a 4=true->a 5=true->a 6=true->a 7=true->∀ c d e f g h i j k l,b a c d e f g h i j k l->
 St 133 c d l fun _ l=>
 b (ah a 9) c d e f g h i j k l)/\
 True)/\
 ∀ a:NB,a 9=true->a 8=true->a 7=true->a 6=true->a 5=true->a 4=true->a 3=true->a 2=true->a 1=true->a 0=true->∀ c e f g h i j k l m,b a c e f g h i j k l m->
 d m))) (
 d e))/\
 ∀ _ _ _ _ _ _ _ _ _ _ _ _ _ _ _ _ _ _ _ _ _ _ _ _ _ _:Value,∀ a:World,d a->
 Ld 135 f a fun a b=>
 St 135 c a b fun _ a=>
 (aO Tryz.prog 135 c a fun b=>R (.returned (.tuple #[b,(.bool true)])) a))))
theorem vV (h:sw p0 p1 p2 w R):CC 136 #[p0,p1,p2] w R:=
  aw (.seq none .leaf (.seq none .leaf (.seq none .leaf (.seq none .leaf (.seq (some []) .leaf .leaf))))) [p0,p1,p2] bo Tryz.func136 (by kernel_rfl) (by kernel_rfl) h

def xi:V2:=fun p0 p1 w R=>
 Bx 36 p1 w fun a b=>
 RR (av 49 0 []) b fun b c=>
 (∃ (d:QP2) (e:QN2),d (nn 0) b c/\
 ∀ b _ _ c _ _ _ _ f g h i j k l m n o p q r s t u v x y z A B _ _ _ _:Value,∀ C:World,d b c C->
 Ln 32 p0 C fun D E=>
 Ba .lss 3 b D E fun D E=>
 CondV D (
 (∃ D:QP1,(
 (∃ d:NB->OL,d fF f g h i j k l m n o p q r s t u v x y z A B { E with drawn:=E.drawn+1 }/\(
 (∀ a:NB,a 0=false->∀ b c e f g h i j k l m n o p q r s t u v x y z,d a b c e f g h i j k l m n o p q r s t u v x y z->
 d (ah a 0) b c e f g h i j k l m n o p q r s t u v x p0 z)/\
 (∀ a:NB,a 1=false->∀ c e f g h i j k l m n o p q r s t u v x y z A,d a c e f g h i j k l m n o p q r s t u v x y z A->
 d (ah a 1) c e f g h i j k l m n o p q r s t u v x b z A)/\
 (∀ a:NB,a 2=false->a 0=true->a 1=true->∀ b c e f g h i j k l m n o p q r s t u v x y z,d a b c e f g h i j k l m n o p q r s t u v x y z->
 Ia 32 y x z fun v z=>
 d (ah a 2) b c e f g h i j k l m n o p q r s t u v x y z)/\
 (∀ a:NB,a 3=false->a 2=true->∀ b c e f g h i j k l m n o p q r s t u v x y z,d a b c e f g h i j k l m n o p q r s t u v x y z->
 Fd 56 v 0 z fun u z=>
 d (ah a 3) b c e f g h i j k l m n o p q r s t u v x y z)/\
 (∀ a:NB,a 4=false->a 3=true->∀ b c e f g h i j k l m n o p q r s t u v x y z,d a b c e f g h i j k l m n o p q r s t u v x y z->
 Fd 36 u 2 z fun t z=>
 d (ah a 4) b c e f g h i j k l m n o p q r s t u v x y z)/\
 (∀ a:NB,a 5=false->a 4=true->∀ b c e f g h i j k l m n o p q r s t u v x y z,d a b c e f g h i j k l m n o p q r s t u v x y z->
 Ld 9 t z fun s z=>
 d (ah a 5) b c e f g h i j k l m n o p q r s t u v x y z)/\
 (∀ b:NB,b 6=false->∀ c e f g h i j k l m n o p q r s t u v x y z A,d b c e f g h i j k l m n o p q r s t u v x y z A->
 Fd 36 a 2 A fun a s=>
 d (ah b 6) c e f g h i j k l m n o p q r a t u v x y z s)/\
 (∀ a:NB,a 7=false->a 6=true->∀ b c e f g h i j k l m n o p q r s t u v x y z,d a b c e f g h i j k l m n o p q r s t u v x y z->
 Ld 9 r z fun q z=>
 d (ah a 7) b c e f g h i j k l m n o p q r s t u v x y z)/\
 (∀ a:NB,a 8=false->a 5=true->a 7=true->∀ b c e f g h i j k l m n o p q r s t u v x y z,d a b c e f g h i j k l m n o p q r s t u v x y z->
 Ba .eql 9 s q z fun p z=>
 d (ah a 8) b c e f g h i j k l m n o p q r s t u v x y z)/\
 (∀ a:NB,a 9=false->a 8=true->∀ b c e f g h i j k l m n o p q r s t u v x y z,d a b c e f g h i j k l m n o p q r s t u v x y z->
 d (ah a 9) b c e f g h i j k l m n p p q r s t u v x y z)/\
 (∀ a:NB,a 10=false->a 9=true->∀ b c e f g h i j k l m n o p q r s t u v x y z,d a b c e f g h i j k l m n o p q r s t u v x y z->
 ag o true (d (ah a 10) b c e f g h i j k l m p0 o p q r s t u v x y z) (d (ah a 10) b c e f g h i j k l m undef o p q r s t u v x y z))/\
 (∀ a:NB,a 11=false->a 9=true->∀ c e f g h i j k l m n o p q r s t u v x y z A,d a c e f g h i j k l m n o p q r s t u v x y z A->
 ag p true (d (ah a 11) c e f g h i j k l m b o p q r s t u v x y z A) (d (ah a 11) c e f g h i j k l m undef o p q r s t u v x y z A))/\
 (∀ a:NB,a 12=false->a 10=true->a 11=true->a 9=true->∀ b c e f g h i j k l m n o p q r s t u v x y z,d a b c e f g h i j k l m n o p q r s t u v x y z->
 ag o true (Ia 32 n m z fun l z=>
 d (ah a 12) b c e f g h i j k l m n o p q r s t u v x y z) (d (ah a 12) b c e f g h i j k undef m n o p q r s t u v x y z))/\
 (∀ a:NB,a 13=false->a 12=true->a 9=true->∀ b c e f g h i j k l m n o p q r s t u v x y z,d a b c e f g h i j k l m n o p q r s t u v x y z->
 ag o true (Fd 56 l 0 z fun k z=>
 d (ah a 13) b c e f g h i j k l m n o p q r s t u v x y z) (d (ah a 13) b c e f g h i j undef l m n o p q r s t u v x y z))/\
 (∀ a:NB,a 14=false->a 13=true->a 9=true->∀ b c e f g h i j k l m n o p q r s t u v x y z,d a b c e f g h i j k l m n o p q r s t u v x y z->
 ag o true (Fd 36 k 3 z fun j z=>
 d (ah a 14) b c e f g h i j k l m n o p q r s t u v x y z) (d (ah a 14) b c e f g h i undef k l m n o p q r s t u v x y z))/\
 (∀ a:NB,a 15=false->a 14=true->a 9=true->∀ b c e f g h i j k l m n o p q r s t u v x y z,d a b c e f g h i j k l m n o p q r s t u v x y z->
 ag o true (Ld 34 j z fun i z=>
 d (ah a 15) b c e f g h i j k l m n o p q r s t u v x y z) (d (ah a 15) b c e f g h undef j k l m n o p q r s t u v x y z))/\
 (∀ a:NB,a 16=false->a 15=true->a 9=true->∀ b c e f g h i j k l m n o p q r s t u v x y z,d a b c e f g h i j k l m n o p q r s t u v x y z->
 ag o true (Ln 34 i z fun h z=>
 d (ah a 16) b c e f g h i j k l m n o p q r s t u v x y z) (d (ah a 16) b c e f g undef i j k l m n o p q r s t u v x y z))/\
 (∀ b:NB,b 17=false->b 9=true->∀ c e f g h i j k l m n o p q r s t u v x y z A,d b c e f g h i j k l m n o p q r s t u v x y z A->
 ag p true (Fd 36 a 3 A fun a h=>
 d (ah b 17) c e f g a i j k l m n o p q r s t u v x y z h) (d (ah b 17) c e f g undef i j k l m n o p q r s t u v x y z A))/\
 (∀ a:NB,a 18=false->a 17=true->a 9=true->∀ b c e f g h i j k l m n o p q r s t u v x y z,d a b c e f g h i j k l m n o p q r s t u v x y z->
 ag o true (Ld 34 g z fun f z=>
 d (ah a 18) b c e f g h i j k l m n o p q r s t u v x y z) (d (ah a 18) b c e undef g h i j k l m n o p q r s t u v x y z))/\
 (∀ a:NB,a 19=false->a 18=true->a 9=true->∀ b c e f g h i j k l m n o p q r s t u v x y z,d a b c e f g h i j k l m n o p q r s t u v x y z->
 ag o true (Ln 34 f z fun e z=>
 d (ah a 19) b c e f g h i j k l m n o p q r s t u v x y z) (d (ah a 19) b c undef f g h i j k l m n o p q r s t u v x y z))/\
 (∀ a:NB,a 20=false->a 16=true->a 19=true->a 9=true->∀ b c e f g h i j k l m n o p q r s t u v x y z,d a b c e f g h i j k l m n o p q r s t u v x y z->
 ag o true (Ba .eql 3 h e z fun c z=>
 d (ah a 20) b c e f g h i j k l m n o p q r s t u v x y z) (d (ah a 20) b undef e f g h i j k l m n o p q r s t u v x y z))/\
 (∀ a:NB,a 21=false->a 9=true->a 20=true->∀ b c e f g h i j k l m n o p q r s t u v x y z,d a b c e f g h i j k l m n o p q r s t u v x y z->
 Pk o c (.bool false) z fun b z=>
 d (ah a 21) b c e f g h i j k l m n o p q r s t u v x y z)/\
 True)/\
 ∀ a:NB,a 21=true->a 20=true->a 19=true->a 18=true->a 17=true->a 16=true->a 15=true->a 14=true->a 13=true->a 12=true->a 11=true->a 10=true->a 9=true->a 8=true->a 7=true->a 6=true->a 5=true->a 4=true->a 3=true->a 2=true->a 1=true->a 0=true->∀ e f g h i j k l m n o p q r s t u v x y z A B,d a e f g h i j k l m n o p q r s t u v x y z A B->
 CondV e (
 RR (av 49 1 [(0,b)]) B fun a b=>
 RR (bx .append #[49,49] 49 [false,false] [c,a]) b fun a b=>
 D a b) (
 D c B)))/\
 ∀ a _ _ _ _ _ _ _ _ _ _ _ _ _ _ _ _ _ _ _ _ _ _ _ _ _ _:Value,∀ f:World,D a f->
 Bb .add 3 b (nn 1) f fun f g=>
 d f a g/\e f a g<e b c C)) (
 R (.returned c) E))
theorem Ap (h:xi p0 p1 w R):CC 137 #[p0,p1] w R:=
  aw (.seq none .leaf (.seq none .leaf (.seq none (.seq none .leaf (.one (.loop [6,5] (.seq none .leaf (.seq (some [5]) .leaf .leaf))))) .leaf))) [p0,p1] bo Tryz.func137 (by kernel_rfl) (by kernel_rfl) h

def qz:V2:=fun p0 p1 w R=>
 Bx 36 p0 w fun a b=>
 Fd 36 a 2 b fun b c=>
 Ld 9 b c fun b c=>
 Bb .eql 9 b (.string ⟨#[116,114,117,101]⟩) c fun c d=>
 CondV c (
 R (.returned (nn 0)) d) (
 Bb .eql 9 b (.string ⟨#[102,97,105,108]⟩) d fun c d=>
 CondV c (
 R (.returned (nn 1)) d) (
 Bb .eql 9 b (.string ⟨#[61]⟩) d fun c d=>
 CondV c (
 (∃ b:NB->JK,b fF (nn 0) undef undef undef undef undef undef undef undef undef undef undef { d with drawn:=d.drawn+1 }/\(
 (∀ c:NB,c 0=false->∀ d e f g h i j k l m n o p,b c d e f g h i j k l m n o p->
 Fd 36 a 3 p fun a o=>
 b (ah c 0) d e f g h i j k l m n a o)/\
 (∀ a:NB,a 1=false->a 0=true->∀ c d e f g h i j k l m n o,b a c d e f g h i j k l m n o->
 Ld 34 n o fun m o=>
 b (ah a 1) c d e f g h i j k l m n o)/\
 (∀ a:NB,a 2=false->a 1=true->∀ c d e f g h i j k l m n o,b a c d e f g h i j k l m n o->
 Ia 34 m (nn 0) o fun l o=>
 b (ah a 2) c d e f g h i j k l m n o)/\
 (∀ a:NB,a 3=false->a 2=true->∀ c d e f g h i j k l m n o,b a c d e f g h i j k l m n o->
 Ld 36 l o fun k o=>
 b (ah a 3) c d e f g h i j k l m n o)/\
 (∀ c:NB,c 4=false->∀ d e f g h i j k l m n o p,b c d e f g h i j k l m n o p->
 Fd 36 a 3 p fun a k=>
 b (ah c 4) d e f g h i j a l m n o k)/\
 (∀ a:NB,a 5=false->a 4=true->∀ c d e f g h i j k l m n o,b a c d e f g h i j k l m n o->
 Ld 34 j o fun i o=>
 b (ah a 5) c d e f g h i j k l m n o)/\
 (∀ a:NB,a 6=false->a 5=true->∀ c d e f g h i j k l m n o,b a c d e f g h i j k l m n o->
 Ia 34 i (nn 1) o fun h o=>
 b (ah a 6) c d e f g h i j k l m n o)/\
 (∀ a:NB,a 7=false->a 6=true->∀ c d e f g h i j k l m n o,b a c d e f g h i j k l m n o->
 Ld 36 h o fun g o=>
 b (ah a 7) c d e f g h i j k l m n o)/\
 (∀ a:NB,a 8=false->∀ c d e f g h i j k l m n o,b a c d e f g h i j k l m n o->
 b (ah a 8) c d e p1 g h i j k l m n o)/\
 (∀ a:NB,a 9=false->a 3=true->a 7=true->a 8=true->∀ c d e f g h i j k l m n o,b a c d e f g h i j k l m n o->
 Ca 162 [k,g,f] o fun e o=>
 b (ah a 9) c d e f g h i j k l m n o)/\
 (∀ a:NB,a 10=false->a 9=true->a 9=true->∀ c d e f g h i j k l m n o,b a c d e f g h i j k l m n o->
 Ca 161 [e] o fun d o=>
 b (ah a 10) c d e f g h i j k l m n o)/\
 (∀ a:NB,a 11=false->a 10=true->a 10=true->a 0=true->a 1=true->a 2=true->a 3=true->a 4=true->a 5=true->a 6=true->a 7=true->a 8=true->a 9=true->a 10=true->∀ c d e f g h i j k l m n o,b a c d e f g h i j k l m n o->
 b (ah a 11) d d e f g h i j k l m n o)/\
 True)/\
 ∀ a:NB,a 11=true->a 10=true->a 9=true->a 8=true->a 7=true->a 6=true->a 5=true->a 4=true->a 3=true->a 2=true->a 1=true->a 0=true->∀ c d e f g h i j k l m n o,b a c d e f g h i j k l m n o->
 R (.returned c) o)) (
 Bb .eql 9 b (.string ⟨#[92,61]⟩) d fun c d=>
 CondV c (
 (∃ b:NB->Oz,b fF (nn 0) undef undef undef undef undef undef undef undef undef undef undef undef undef undef { d with drawn:=d.drawn+1 }/\(
 (∀ c:NB,c 0=false->∀ d e f g h i j k l m n o p q r s,b c d e f g h i j k l m n o p q r s->
 Fd 36 a 3 s fun a r=>
 b (ah c 0) d e f g h i j k l m n o p q a r)/\
 (∀ a:NB,a 1=false->a 0=true->∀ c d e f g h i j k l m n o p q r,b a c d e f g h i j k l m n o p q r->
 Ld 34 q r fun p r=>
 b (ah a 1) c d e f g h i j k l m n o p q r)/\
 (∀ a:NB,a 2=false->a 1=true->∀ c d e f g h i j k l m n o p q r,b a c d e f g h i j k l m n o p q r->
 Ia 34 p (nn 0) r fun o r=>
 b (ah a 2) c d e f g h i j k l m n o p q r)/\
 (∀ a:NB,a 3=false->a 2=true->∀ c d e f g h i j k l m n o p q r,b a c d e f g h i j k l m n o p q r->
 Ld 36 o r fun n r=>
 b (ah a 3) c d e f g h i j k l m n o p q r)/\
 (∀ c:NB,c 4=false->∀ d e f g h i j k l m n o p q r s,b c d e f g h i j k l m n o p q r s->
 Fd 36 a 3 s fun a n=>
 b (ah c 4) d e f g h i j k l m a o p q r n)/\
 (∀ a:NB,a 5=false->a 4=true->∀ c d e f g h i j k l m n o p q r,b a c d e f g h i j k l m n o p q r->
 Ld 34 m r fun l r=>
 b (ah a 5) c d e f g h i j k l m n o p q r)/\
 (∀ a:NB,a 6=false->a 5=true->∀ c d e f g h i j k l m n o p q r,b a c d e f g h i j k l m n o p q r->
 Ia 34 l (nn 1) r fun k r=>
 b (ah a 6) c d e f g h i j k l m n o p q r)/\
 (∀ a:NB,a 7=false->a 6=true->∀ c d e f g h i j k l m n o p q r,b a c d e f g h i j k l m n o p q r->
 Ld 36 k r fun j r=>
 b (ah a 7) c d e f g h i j k l m n o p q r)/\
 (∀ a:NB,a 8=false->∀ c d e f g h i j k l m n o p q r,b a c d e f g h i j k l m n o p q r->
 RR (av 34 0 []) r fun i r=>
 b (ah a 8) c d e f g h i j k l m n o p q r)/\
 (∀ a:NB,a 9=false->∀ c d e f g h i j k l m n o p q r,b a c d e f g h i j k l m n o p q r->
 b (ah a 9) c d e f g p1 i j k l m n o p q r)/\
 (∀ a:NB,a 10=false->a 8=true->a 9=true->∀ c d e f g h i j k l m n o p q r,b a c d e f g h i j k l m n o p q r->
 RR (bx .append #[34,34] 34 [false,false] [i,h]) r fun g r=>
 b (ah a 10) c d e f g h i j k l m n o p q r)/\
 (∀ a:NB,a 11=false->a 3=true->a 7=true->a 10=true->a 10=true->∀ c d e f g h i j k l m n o p q r,b a c d e f g h i j k l m n o p q r->
 Ca 162 [n,j,g] r fun f r=>
 b (ah a 11) c d e f g h i j k l m n o p q r)/\
 (∀ a:NB,a 12=false->a 11=true->∀ c d e f g h i j k l m n o p q r,b a c d e f g h i j k l m n o p q r->
 Nt f r fun e r=>
 b (ah a 12) c d e f g h i j k l m n o p q r)/\
 (∀ a:NB,a 13=false->a 12=true->a 11=true->∀ c d e f g h i j k l m n o p q r,b a c d e f g h i j k l m n o p q r->
 Ca 161 [e] r fun d r=>
 b (ah a 13) c d e f g h i j k l m n o p q r)/\
 (∀ a:NB,a 14=false->a 13=true->a 13=true->a 0=true->a 1=true->a 2=true->a 3=true->a 4=true->a 5=true->a 6=true->a 7=true->a 8=true->a 9=true->a 10=true->a 11=true->a 12=true->a 13=true->∀ c d e f g h i j k l m n o p q r,b a c d e f g h i j k l m n o p q r->
 b (ah a 14) d d e f g h i j k l m n o p q r)/\
 True)/\
 ∀ a:NB,a 14=true->a 13=true->a 12=true->a 11=true->a 10=true->a 9=true->a 8=true->a 7=true->a 6=true->a 5=true->a 4=true->a 3=true->a 2=true->a 1=true->a 0=true->∀ c d e f g h i j k l m n o p q r,b a c d e f g h i j k l m n o p q r->
 R (.returned c) r)) (
 Bb .eql 9 b (.string ⟨#[61,61]⟩) d fun c d=>
 CondV c (
 (∃ b:NB->LK,b fF (nn 0) undef undef undef undef undef undef undef undef undef undef { d with drawn:=d.drawn+1 }/\(
 (∀ c:NB,c 0=false->∀ d e f g h i j k l m n o,b c d e f g h i j k l m n o->
 Fd 36 a 3 o fun a n=>
 b (ah c 0) d e f g h i j k l m a n)/\
 (∀ a:NB,a 1=false->a 0=true->∀ c d e f g h i j k l m n,b a c d e f g h i j k l m n->
 Ld 34 m n fun l n=>
 b (ah a 1) c d e f g h i j k l m n)/\
 (∀ a:NB,a 2=false->a 1=true->∀ c d e f g h i j k l m n,b a c d e f g h i j k l m n->
 Ia 34 l (nn 0) n fun k n=>
 b (ah a 2) c d e f g h i j k l m n)/\
 (∀ a:NB,a 3=false->a 2=true->∀ c d e f g h i j k l m n,b a c d e f g h i j k l m n->
 Ld 36 k n fun j n=>
 b (ah a 3) c d e f g h i j k l m n)/\
 (∀ c:NB,c 4=false->∀ d e f g h i j k l m n o,b c d e f g h i j k l m n o->
 Fd 36 a 3 o fun a j=>
 b (ah c 4) d e f g h i a k l m n j)/\
 (∀ a:NB,a 5=false->a 4=true->∀ c d e f g h i j k l m n,b a c d e f g h i j k l m n->
 Ld 34 i n fun h n=>
 b (ah a 5) c d e f g h i j k l m n)/\
 (∀ a:NB,a 6=false->a 5=true->∀ c d e f g h i j k l m n,b a c d e f g h i j k l m n->
 Ia 34 h (nn 1) n fun g n=>
 b (ah a 6) c d e f g h i j k l m n)/\
 (∀ a:NB,a 7=false->a 6=true->∀ c d e f g h i j k l m n,b a c d e f g h i j k l m n->
 Ld 36 g n fun f n=>
 b (ah a 7) c d e f g h i j k l m n)/\
 (∀ a:NB,a 8=false->a 3=true->a 7=true->∀ c d e f g h i j k l m n,b a c d e f g h i j k l m n->
 Ca 119 [j,f] n fun e n=>
 b (ah a 8) c d e f g h i j k l m n)/\
 (∀ a:NB,a 9=false->a 8=true->a 8=true->∀ c d e f g h i j k l m n,b a c d e f g h i j k l m n->
 Ca 161 [e] n fun d n=>
 b (ah a 9) c d e f g h i j k l m n)/\
 (∀ a:NB,a 10=false->a 9=true->a 9=true->a 0=true->a 1=true->a 2=true->a 3=true->a 4=true->a 5=true->a 6=true->a 7=true->a 8=true->a 9=true->∀ c d e f g h i j k l m n,b a c d e f g h i j k l m n->
 b (ah a 10) d d e f g h i j k l m n)/\
 True)/\
 ∀ a:NB,a 10=true->a 9=true->a 8=true->a 7=true->a 6=true->a 5=true->a 4=true->a 3=true->a 2=true->a 1=true->a 0=true->∀ c d e f g h i j k l m n,b a c d e f g h i j k l m n->
 R (.returned c) n)) (
 Bb .eql 9 b (.string ⟨#[105,115]⟩) d fun c d=>
 CondV c (
 Fd 36 a 3 d fun b c=>
 Ld 34 b c fun b c=>
 Ia 34 b (nn 1) c fun b c=>
 Ld 36 b c fun b c=>
 Ca 163 [b] c fun b c=>
 Ex b 0 3 c fun c d=>
 Ex b 1 3 d fun b d=>
 Bb .neq 3 b (nn 0) d fun d e=>
 CondV d (
 R (.returned b) e) (
 (∃ b:NB->Nc,b fF (nn 0) undef undef undef undef undef undef undef undef undef { e with drawn:=e.drawn+1 }/\(
 (∀ c:NB,c 0=false->∀ d e f g h i j k l m n,b c d e f g h i j k l m n->
 Fd 36 a 3 n fun a m=>
 b (ah c 0) d e f g h i j k l a m)/\
 (∀ a:NB,a 1=false->a 0=true->∀ c d e f g h i j k l m,b a c d e f g h i j k l m->
 Ld 34 l m fun k m=>
 b (ah a 1) c d e f g h i j k l m)/\
 (∀ a:NB,a 2=false->a 1=true->∀ c d e f g h i j k l m,b a c d e f g h i j k l m->
 Ia 34 k (nn 0) m fun j m=>
 b (ah a 2) c d e f g h i j k l m)/\
 (∀ a:NB,a 3=false->a 2=true->∀ c d e f g h i j k l m,b a c d e f g h i j k l m->
 Ld 36 j m fun i m=>
 b (ah a 3) c d e f g h i j k l m)/\
 (∀ a:NB,a 4=false->∀ d e f g h i j k l m n,b a d e f g h i j k l m n->
 b (ah a 4) d e f g h c j k l m n)/\
 (∀ a:NB,a 5=false->a 4=true->∀ c d e f g h i j k l m,b a c d e f g h i j k l m->
 Ca 106 [h] m fun g m=>
 b (ah a 5) c d e f g h i j k l m)/\
 (∀ a:NB,a 6=false->∀ c d e f g h i j k l m,b a c d e f g h i j k l m->
 b (ah a 6) c d e p1 g h i j k l m)/\
 (∀ a:NB,a 7=false->a 3=true->a 5=true->a 6=true->a 5=true->∀ c d e f g h i j k l m,b a c d e f g h i j k l m->
 Ca 162 [i,g,f] m fun e m=>
 b (ah a 7) c d e f g h i j k l m)/\
 (∀ a:NB,a 8=false->a 7=true->a 7=true->∀ c d e f g h i j k l m,b a c d e f g h i j k l m->
 Ca 161 [e] m fun d m=>
 b (ah a 8) c d e f g h i j k l m)/\
 (∀ a:NB,a 9=false->a 8=true->a 8=true->a 0=true->a 1=true->a 2=true->a 3=true->a 4=true->a 5=true->a 6=true->a 7=true->a 8=true->∀ c d e f g h i j k l m,b a c d e f g h i j k l m->
 b (ah a 9) d d e f g h i j k l m)/\
 True)/\
 ∀ a:NB,a 9=true->a 8=true->a 7=true->a 6=true->a 5=true->a 4=true->a 3=true->a 2=true->a 1=true->a 0=true->∀ c d e f g h i j k l m,b a c d e f g h i j k l m->
 R (.returned c) m))) (
 Bb .eql 9 b (.string ⟨#[97,114,103]⟩) d fun b c=>
 CondV b (
 Ld 36 a c fun b c=>
 Ca 164 [b] c fun b c=>
 Ex b 0 36 c fun c d=>
 Ex b 1 3 d fun b d=>
 Al 36 d fun d e=>
 St 36 d c e fun _ c=>
 Bb .neq 3 b (nn 0) c fun c e=>
 CondV c (
 R (.returned b) e) (
 (∃ b:NB->QP9,b fF (nn 0) undef undef undef undef undef undef undef undef { e with drawn:=e.drawn+1 }/\(
 (∀ c:NB,c 0=false->∀ d e f g h i j k l m,b c d e f g h i j k l m->
 Fd 36 a 3 m fun a l=>
 b (ah c 0) d e f g h i j k a l)/\
 (∀ a:NB,a 1=false->a 0=true->∀ c d e f g h i j k l,b a c d e f g h i j k l->
 Ld 34 k l fun j l=>
 b (ah a 1) c d e f g h i j k l)/\
 (∀ a:NB,a 2=false->a 1=true->∀ c d e f g h i j k l,b a c d e f g h i j k l->
 Ia 34 j (nn 2) l fun i l=>
 b (ah a 2) c d e f g h i j k l)/\
 (∀ a:NB,a 3=false->a 2=true->∀ c d e f g h i j k l,b a c d e f g h i j k l->
 Ld 36 i l fun h l=>
 b (ah a 3) c d e f g h i j k l)/\
 (∀ a:NB,a 4=false->∀ c e f g h i j k l m,b a c e f g h i j k l m->
 Ld 36 d m fun d h=>
 b (ah a 4) c e f g d i j k l h)/\
 (∀ a:NB,a 5=false->∀ c d e f g h i j k l,b a c d e f g h i j k l->
 b (ah a 5) c d e p1 g h i j k l)/\
 (∀ a:NB,a 6=false->a 3=true->a 4=true->a 5=true->∀ c d e f g h i j k l,b a c d e f g h i j k l->
 Ca 162 [h,g,f] l fun e l=>
 b (ah a 6) c d e f g h i j k l)/\
 (∀ a:NB,a 7=false->a 6=true->a 6=true->∀ c d e f g h i j k l,b a c d e f g h i j k l->
 Ca 161 [e] l fun d l=>
 b (ah a 7) c d e f g h i j k l)/\
 (∀ a:NB,a 8=false->a 7=true->a 7=true->a 0=true->a 1=true->a 2=true->a 3=true->a 4=true->a 5=true->a 6=true->a 7=true->∀ c d e f g h i j k l,b a c d e f g h i j k l->
 b (ah a 8) d d e f g h i j k l)/\
 True)/\
 ∀ a:NB,a 8=true->a 7=true->a 6=true->a 5=true->a 4=true->a 3=true->a 2=true->a 1=true->a 0=true->∀ c d e f g h i j k l,b a c d e f g h i j k l->
 R (.returned c) l))) (
 Fd 36 a 2 c fun b c=>
 Ld 9 b c fun b c=>
 Ca 165 [b] c fun b c=>
 CondV b (
 Ld 36 a c fun a b=>
 Ca 166 [a] b fun a b=>
 R (.returned a) b) (
 Ld 36 a c fun a b=>
 Ca 167 [a] b fun a b=>
 R (.returned a) b))))))))
theorem vF (h:qz p0 p1 w R):CC 138 #[p0,p1] w R:=
  aw .leaf [p0,p1] bo Tryz.func138 (by kernel_rfl) (by kernel_rfl) h

def o0:V2:=fun p0 p1 w R=>
 Bx 36 p0 w fun a b=>
 Al 36 b fun b c=>
 Fd 36 a 0 c fun c d=>
 Ld 3 c d fun c d=>
 Fd 36 a 1 d fun d e=>
 Ld 3 d e fun d e=>
 Fd 36 a 2 e fun e f=>
 Ld 9 e f fun e f=>
 RR (bD 36 [(0,c),(1,d),(2,e)]) f fun c d=>
 Al 36 d fun d e=>
 St 36 d c e fun _ c=>
 (∃ (e:QP1) (f:QN1),e (nn 0) c/\
 ∀ c _ _ _ _ g h i j k l m _ _ _ _ _ _ _ _ _:Value,∀ n:World,e c n->
 (∃ o:QP1,(
 Ln 49 p1 n fun b d=>
 Ba .lss 3 c b d fun b c=>
 ag b true (
 Fd 36 a 0 c fun a c=>
 Ld 3 a c fun a c=>
 Bb .eql 3 a (nn 1) c fun a c=>
 Pk b a (.bool false) c fun a b=>
 o a b) (
 Pk b undef (.bool false) c fun a b=>
 o a b))/\
 ∀ p _ _ _ _ _ _ _ _:Value,∀ q:World,o p q->
 CondV p (
 (∃ b:World->Prop,(
 (∃ e:NB->QP7,e fF g h i j k l m { q with drawn:=q.drawn+1 }/\(
 (∀ a:NB,a 0=false->∀ b c d f g h i j,e a b c d f g h i j->
 e (ah a 0) b c d f g h p1 j)/\
 (∀ a:NB,a 1=false->∀ b d f g h i j k,e a b d f g h i j k->
 e (ah a 1) b d f g h c j k)/\
 (∀ a:NB,a 2=false->a 0=true->a 1=true->∀ b c d f g h i j,e a b c d f g h i j->
 Ia 49 i h j fun g j=>
 e (ah a 2) b c d f g h i j)/\
 (∀ a:NB,a 3=false->a 2=true->∀ b c d f g h i j,e a b c d f g h i j->
 Ld 3 g j fun f j=>
 e (ah a 3) b c d f g h i j)/\
 (∀ b:NB,b 4=false->∀ c d f g h i j k,e b c d f g h i j k->
 Fd 36 a 1 k fun a f=>
 e (ah b 4) c d a g h i j f)/\
 (∀ a:NB,a 5=false->a 4=true->∀ b c d f g h i j,e a b c d f g h i j->
 Ld 3 d j fun c j=>
 e (ah a 5) b c d f g h i j)/\
 (∀ a:NB,a 6=false->a 3=true->a 5=true->∀ b c d f g h i j,e a b c d f g h i j->
 Ba .eql 3 f c j fun b j=>
 e (ah a 6) b c d f g h i j)/\
 True)/\
 ∀ a:NB,a 6=true->a 5=true->a 4=true->a 3=true->a 2=true->a 1=true->a 0=true->∀ f g h i j k l m,e a f g h i j k l m->
 CondV f (
 Fd 36 d 1 m fun a d=>
 St 3 a c d fun _ a=>
 b a) (
 b m)))/\
 ∀ _ _ _ _ _ _ _ _ _:Value,∀ a:World,b a->
 Bb .add 3 c (nn 1) a fun a b=>
 e a b/\f a b<f c n)) (
 (∃ (c:QP1) (e:QN1),c (nn 0) q/\
 ∀ f _ _ g h i j k l m n o p q r _ _ _ _ _:Value,∀ s:World,c f s->
 Fd 36 a 3 s fun t u=>
 Ld 34 t u fun t u=>
 Ln 34 t u fun t u=>
 Ba .lss 3 f t u fun t u=>
 CondV t (
 (∃ b:NB->JK,b fF g h i j k l m n o p q r { u with drawn:=u.drawn+1 }/\(
 (∀ a:NB,a 0=false->∀ c e f g h i j k l m n o p,b a c e f g h i j k l m n o p->
 Fd 36 d 3 p fun d o=>
 b (ah a 0) c e f g h i j k l m n d o)/\
 (∀ a:NB,a 1=false->a 0=true->∀ c d e f g h i j k l m n o,b a c d e f g h i j k l m n o->
 Ld 34 n o fun m o=>
 b (ah a 1) c d e f g h i j k l m n o)/\
 (∀ c:NB,c 2=false->∀ d e f g h i j k l m n o p,b c d e f g h i j k l m n o p->
 Fd 36 a 3 p fun a m=>
 b (ah c 2) d e f g h i j k l a n o m)/\
 (∀ a:NB,a 3=false->a 2=true->∀ c d e f g h i j k l m n o,b a c d e f g h i j k l m n o->
 Ld 34 l o fun k o=>
 b (ah a 3) c d e f g h i j k l m n o)/\
 (∀ a:NB,a 4=false->∀ c d e g h i j k l m n o p,b a c d e g h i j k l m n o p->
 b (ah a 4) c d e g h i j f l m n o p)/\
 (∀ a:NB,a 5=false->a 3=true->a 4=true->∀ c d e f g h i j k l m n o,b a c d e f g h i j k l m n o->
 Ia 34 k j o fun i o=>
 b (ah a 5) c d e f g h i j k l m n o)/\
 (∀ a:NB,a 6=false->a 5=true->∀ c d e f g h i j k l m n o,b a c d e f g h i j k l m n o->
 Ld 36 i o fun h o=>
 b (ah a 6) c d e f g h i j k l m n o)/\
 (∀ a:NB,a 7=false->∀ c d e f g h i j k l m n o,b a c d e f g h i j k l m n o->
 b (ah a 7) c d e f p1 h i j k l m n o)/\
 (∀ a:NB,a 8=false->a 6=true->a 7=true->∀ c d e f g h i j k l m n o,b a c d e f g h i j k l m n o->
 Ca 139 [h,g] o fun f o=>
 b (ah a 8) c d e f g h i j k l m n o)/\
 (∀ a:NB,a 9=false->a 8=true->∀ c d e f g h i j k l m n o,b a c d e f g h i j k l m n o->
 RR (av 34 1 [(0,f)]) o fun e o=>
 b (ah a 9) c d e f g h i j k l m n o)/\
 (∀ a:NB,a 10=false->a 1=true->a 9=true->a 8=true->∀ c d e f g h i j k l m n o,b a c d e f g h i j k l m n o->
 RR (bx .append #[34,34] 34 [false,false] [m,e]) o fun d o=>
 b (ah a 10) c d e f g h i j k l m n o)/\
 (∀ a:NB,a 11=false->a 0=true->a 1=true->a 2=true->a 3=true->a 4=true->a 5=true->a 6=true->a 7=true->a 8=true->a 9=true->a 10=true->∀ c e f g h i j k l m n o p,b a c e f g h i j k l m n o p->
 Fd 36 d 3 p fun c d=>
 b (ah a 11) c e f g h i j k l m n o d)/\
 (∀ a:NB,a 12=false->a 11=true->a 10=true->a 10=true->a 0=true->a 1=true->a 2=true->a 3=true->a 4=true->a 5=true->a 6=true->a 7=true->a 8=true->a 9=true->a 10=true->∀ c d e f g h i j k l m n o,b a c d e f g h i j k l m n o->
 St 34 c d o fun _ o=>
 b (ah a 12) c d e f g h i j k l m n o)/\
 True)/\
 ∀ a:NB,a 12=true->a 11=true->a 10=true->a 9=true->a 8=true->a 7=true->a 6=true->a 5=true->a 4=true->a 3=true->a 2=true->a 1=true->a 0=true->∀ d g h i j k l m n o p q r,b a d g h i j k l m n o p q r->
 Bb .add 3 f (nn 1) r fun a b=>
 c a b/\e a b<e f s)) (
 Ld 36 d u fun a c=>
 St 36 b a c fun _ a=>
 (aO Tryz.prog 36 b a fun b=>R (.returned b) a))))))
theorem sO (h:o0 p0 p1 w R):CC 139 #[p0,p1] w R:=
  aw (.seq none .leaf (.seq none .leaf (.seq none (.seq none .leaf (.one (.loop [6] (.seq none (.seq (some [23]) .leaf .leaf) (.seq (some []) .leaf .leaf))))) (.seq none (.seq none .leaf (.one (.loop [7] .leaf))) .leaf)))) [p0,p1] bo Tryz.func139 (by kernel_rfl) (by kernel_rfl) h

def un:V2:=fun p0 p1 w R=>
 Bx 36 p1 w fun a b=>
 Fd 36 a 0 b fun b c=>
 Ld 3 b c fun b c=>
 Bb .eql 3 b (nn 1) c fun b c=>
 CondV b (
 (∃ (b:QP1) (d:QN1),b (nn 0) c/\
 ∀ c _ _ _ _ e f g h i j k _ _ _ _:Value,∀ l:World,b c l->
 Ln 49 p0 l fun m n=>
 Ba .lss 3 c m n fun m n=>
 CondV m (
 (∃ m:NB->QP7,m fF e f g h i j k { n with drawn:=n.drawn+1 }/\(
 (∀ a:NB,a 0=false->∀ b c d e f g h i,m a b c d e f g h i->
 m (ah a 0) b c d e f g p0 i)/\
 (∀ a:NB,a 1=false->∀ b d e f g h i j,m a b d e f g h i j->
 m (ah a 1) b d e f g c i j)/\
 (∀ a:NB,a 2=false->a 0=true->a 1=true->∀ b c d e f g h i,m a b c d e f g h i->
 Ia 49 h g i fun f i=>
 m (ah a 2) b c d e f g h i)/\
 (∀ a:NB,a 3=false->a 2=true->∀ b c d e f g h i,m a b c d e f g h i->
 Ld 3 f i fun e i=>
 m (ah a 3) b c d e f g h i)/\
 (∀ b:NB,b 4=false->∀ c d e f g h i j,m b c d e f g h i j->
 Fd 36 a 1 j fun a e=>
 m (ah b 4) c d a f g h i e)/\
 (∀ a:NB,a 5=false->a 4=true->∀ b c d e f g h i,m a b c d e f g h i->
 Ld 3 d i fun c i=>
 m (ah a 5) b c d e f g h i)/\
 (∀ a:NB,a 6=false->a 3=true->a 5=true->∀ b c d e f g h i,m a b c d e f g h i->
 Ba .eql 3 e c i fun b i=>
 m (ah a 6) b c d e f g h i)/\
 True)/\
 ∀ a:NB,a 6=true->a 5=true->a 4=true->a 3=true->a 2=true->a 1=true->a 0=true->∀ e f g h i j k n,m a e f g h i j k n->
 CondV e (
 R (.returned p0) n) (
 Bb .add 3 c (nn 1) n fun a e=>
 b a e/\d a e<d c l))) (
 Fd 36 a 1 n fun a b=>
 Ld 3 a b fun a b=>
 RR (av 49 1 [(0,a)]) b fun a b=>
 RR (bx .append #[49,49] 49 [false,false] [p0,a]) b fun a b=>
 R (.returned a) b))) (
 (∃ (b:QP2) (d:QN2),b (nn 0) p0 c/\
 ∀ c _ _ e _ _ _ _ _ _ _ _ _ _ _ _:Value,∀ f:World,b c e f->
 Fd 36 a 3 f fun g h=>
 Ld 34 g h fun g h=>
 Ln 34 g h fun g h=>
 Ba .lss 3 c g h fun g h=>
 CondV g (
 Fd 36 a 3 h fun a g=>
 Ld 34 a g fun a g=>
 Ia 34 a c g fun a g=>
 Ld 36 a g fun a g=>
 Ca 140 [e,a] g fun a g=>
 Bb .add 3 c (nn 1) g fun g h=>
 b g a h/\d g a h<d c e f) (
 R (.returned e) h)))
theorem zl (h:un p0 p1 w R):CC 140 #[p0,p1] w R:=
  aw (.seq none .leaf (.seq none (.seq none .leaf (.two (.seq none (.seq none .leaf (.one (.loop [5] .leaf))) .leaf) .leaf)) (.seq none (.seq none .leaf (.one (.loop [6,0] .leaf))) .leaf))) [p0,p1] bo Tryz.func140 (by kernel_rfl) (by kernel_rfl) h

def mm:V1:=fun p0 w R=>
 Ca 109 [p0] w fun a b=>
 ag a false (
 Ca 168 [] b fun b c=>
 Ca 147 [b,p0] c fun b c=>
 Pk a (.bool true) b c fun a b=>
 R (.returned a) b) (
 Pk a (.bool true) undef b fun a b=>
 R (.returned a) b)
theorem rQ (h:mm p0 w R):CC 141 #[p0] w R:=
  aw .leaf [p0] bo Tryz.func141 (by kernel_rfl) (by kernel_rfl) h

def ux:V3:=fun p0 p1 p2 w R=>
 Bx 36 p0 w fun a b=>
 Ld 36 a b fun a b=>
 Ld 3 p1 b fun b c=>
 Bb .add 3 b (nn 1) c fun b c=>
 Ld 70 p2 c fun c d=>
 Ca 108 [a,b,c] d fun a b=>
 Nt a b fun a b=>
 R (.returned a) b
theorem xx (h:ux p0 p1 p2 w R):CC 142 #[p0,p1,p2] w R:=
  aw .leaf [p0,p1,p2] bo Tryz.func142 (by kernel_rfl) (by kernel_rfl) h

def rA:V1:=fun p0 w R=>
 (∃ a:QP1,(
 Bb .eql 9 p0 (.string ⟨#[61]⟩) w fun b c=>
 CondV b (
 a b c) (
 Bb .eql 9 p0 (.string ⟨#[92,61]⟩) c fun b c=>
 CondV b (
 a b c) (
 Bb .eql 9 p0 (.string ⟨#[61,61]⟩) c fun b c=>
 CondV b (
 a b c) (
 Bb .eql 9 p0 (.string ⟨#[60]⟩) c fun b c=>
 CondV b (
 a b c) (
 Bb .eql 9 p0 (.string ⟨#[62]⟩) c fun b c=>
 CondV b (
 a b c) (
 Bb .eql 9 p0 (.string ⟨#[61,60]⟩) c fun b c=>
 CondV b (
 a b c) (
 Bb .eql 9 p0 (.string ⟨#[62,61]⟩) c fun b c=>
 CondV b (
 a b c) (
 Bb .eql 9 p0 (.string ⟨#[61,58,61]⟩) c fun b c=>
 CondV b (
 a b c) (
 Bb .eql 9 p0 (.string ⟨#[105,115]⟩) c fun b c=>
 a b c)))))))))/\
 ∀ _ _ _ _ _ _ _ _ b _:Value,∀ c:World,a b c->
 CondV b (
 R (.returned (.tuple #[(nn 3),(.bool false)])) c) (
 (∃ a:QP1,(
 Bb .eql 9 p0 (.string ⟨#[43]⟩) c fun b c=>
 CondV b (
 a b c) (
 Bb .eql 9 p0 (.string ⟨#[45]⟩) c fun b c=>
 a b c))/\
 ∀ _ b _:Value,∀ c:World,a b c->
 CondV b (
 R (.returned (.tuple #[(nn 2),(.bool true)])) c) (
 (∃ a:QP1,(
 Bb .eql 9 p0 (.string ⟨#[42]⟩) c fun b c=>
 CondV b (
 a b c) (
 Bb .eql 9 p0 (.string ⟨#[47,47]⟩) c fun b c=>
 CondV b (
 a b c) (
 Bb .eql 9 p0 (.string ⟨#[109,111,100]⟩) c fun b c=>
 a b c)))/\
 ∀ _ _ b _:Value,∀ c:World,a b c->
 CondV b (
 R (.returned (.tuple #[(nn 1),(.bool true)])) c) (
 R (.returned (.tuple #[(nn 0),(.bool false)])) c))))))
theorem vq (h:rA p0 w R):CC 143 #[p0] w R:=
  aw (.seq none .leaf (.seq none (.seq none .leaf (.one (.seq (some [5]) .leaf (.two .leaf (.seq (some [15]) .leaf (.two .leaf (.seq (some [18]) .leaf .leaf))))))) .leaf)) [p0] bo Tryz.func143 (by kernel_rfl) (by kernel_rfl) h

def il:V2:=fun p0 p1 w R=>
 Ln 34 p0 w fun a b=>
 (∃ (c:QP1) (d:QN1),c (nn 0) b/\
 ∀ b _ _ _ _ _ _ _ _ _ _ _ _:Value,∀ e:World,c b e->
 Ba .lss 3 b a e fun a f=>
 CondV a (
 Ia 34 p0 b f fun a f=>
 Ld 36 a f fun a f=>
 RR (fN p1 [a]) f fun a f=>
 CondV a (
 R (.returned b) f) (
 Bb .add 3 b (nn 1) f fun a f=>
 c a f/\d a f<d b e)) (
 R (.returned (.int .i64 (-1))) f))
theorem kJ (h:il p0 p1 w R):CC 144 #[p0,p1] w R:=
  aw (.seq none .leaf (.seq none (.seq none .leaf (.one (.loop [8] .leaf))) .leaf)) [p0,p1] bo Tryz.func144 (by kernel_rfl) (by kernel_rfl) h

def yS:V1:=fun p0 w R=>
 Bx 36 p0 w fun a b=>
 Fd 36 a 0 b fun b c=>
 Ld 3 b c fun b c=>
 Bb .eql 3 b (nn 1) c fun c d=>
 CondV c (
 Fd 36 a 1 d fun b c=>
 Ld 3 b c fun b c=>
 Bb .geq 3 b (nn 0) c fun b c=>
 ((fun d:VW=>ag b true (
 Fd 36 a 1 c fun a c=>
 Ld 3 a c fun a c=>
 Bb .leq 3 a (nn 25) c fun a c=>
 Pk b a (.bool false) c fun a b=>d a b) (
 Pk b undef (.bool false) c fun a b=>d a b)) fun b c=>
 ((fun d:VW=>ag b true (
 Fd 36 a 2 c fun a c=>
 Ld 9 a c fun a c=>
 Bb .eql 9 a (.string ⟨#[]⟩) c fun a c=>
 Pk b a (.bool false) c fun a b=>d a b) (
 Pk b undef (.bool false) c fun a b=>d a b)) fun b c=>
 ag b true (
 Fd 36 a 3 c fun a c=>
 Ld 34 a c fun a c=>
 Ln 34 a c fun a c=>
 Bb .eql 3 a (nn 0) c fun a c=>
 Pk b a (.bool false) c fun a b=>
 R (.returned a) b) (
 Pk b undef (.bool false) c fun a b=>
 R (.returned a) b)))) (
 Bb .eql 3 b (nn 2) d fun c d=>
 CondV c (
 Fd 36 a 1 d fun b c=>
 Ld 3 b c fun b c=>
 Bb .geq 3 b (.int .i64 (-999)) c fun b c=>
 ((fun d:VW=>ag b true (
 Fd 36 a 1 c fun a c=>
 Ld 3 a c fun a c=>
 Bb .leq 3 a (nn 999) c fun a c=>
 Pk b a (.bool false) c fun a b=>d a b) (
 Pk b undef (.bool false) c fun a b=>d a b)) fun b c=>
 ((fun d:VW=>ag b true (
 Fd 36 a 2 c fun a c=>
 Ld 9 a c fun a c=>
 Bb .eql 9 a (.string ⟨#[]⟩) c fun a c=>
 Pk b a (.bool false) c fun a b=>d a b) (
 Pk b undef (.bool false) c fun a b=>d a b)) fun b c=>
 ag b true (
 Fd 36 a 3 c fun a c=>
 Ld 34 a c fun a c=>
 Ln 34 a c fun a c=>
 Bb .eql 3 a (nn 0) c fun a c=>
 Pk b a (.bool false) c fun a b=>
 R (.returned a) b) (
 Pk b undef (.bool false) c fun a b=>
 R (.returned a) b)))) (
 Bb .eql 3 b (nn 3) d fun b c=>
 CondV b (
 Fd 36 a 1 c fun b c=>
 Ld 3 b c fun b c=>
 Bb .eql 3 b (nn 0) c fun b c=>
 ((fun d:VW=>ag b true (
 Fd 36 a 2 c fun a c=>
 Ld 9 a c fun a c=>
 Ca 169 [a] c fun a c=>
 Pk b a (.bool false) c fun a b=>d a b) (
 Pk b undef (.bool false) c fun a b=>d a b)) fun b c=>
 ag b true (
 Fd 36 a 3 c fun a c=>
 Ld 34 a c fun a c=>
 Ln 34 a c fun a c=>
 Bb .leq 3 a (nn 4) c fun a c=>
 Pk b a (.bool false) c fun a b=>
 R (.returned a) b) (
 Pk b undef (.bool false) c fun a b=>
 R (.returned a) b))) (
 R (.returned (.bool false)) c)))
theorem AK (h:yS p0 w R):CC 145 #[p0] w R:=
  aw .leaf [p0] bo Tryz.func145 (by kernel_rfl) (by kernel_rfl) h

def tW:V3:=fun p0 p1 p2 w R=>
 Bx 36 p0 w fun a b=>
 Al 36 b fun b c=>
 Bb .lss 3 p2 (nn 1) c fun c d=>
 CondV c (
 RR (bD 36 []) d fun a c=>
 St 36 b a c fun _ a=>
 (aO Tryz.prog 36 b a fun b=>R (.returned (.tuple #[b,(.int .i64 (-1))])) a)) (
 Ld 36 a d fun c d=>
 Ca 170 [c,p1] d fun c d=>
 St 36 a c d fun _ c=>
 Fd 36 a 0 c fun c d=>
 Ld 3 c d fun c d=>
 Fd 36 a 1 d fun d e=>
 Ld 3 d e fun d e=>
 Fd 36 a 2 e fun e f=>
 Ld 9 e f fun e f=>
 RR (bD 36 [(0,c),(1,d),(2,e)]) f fun c d=>
 Al 36 d fun d e=>
 St 36 d c e fun _ c=>
 Bb .sub 3 p2 (nn 1) c fun c e=>
 (∃ (f:QP2) (g:QN2),f (nn 0) c e/\
 ∀ c _ _ e _ _ _ _ _ _ _ _ _ _ _ _ _ _ _ _ _ _ _ _ _ _ _ _ _ _ _ _ _:Value,∀ h:World,f c e h->
 (∃ i:QP1,(
 Fd 36 a 3 h fun a b=>
 Ld 34 a b fun a b=>
 Ln 34 a b fun a b=>
 Ba .lss 3 c a b fun a b=>
 ag a true (
 Bb .geq 3 e (nn 0) b fun b c=>
 Pk a b (.bool false) c fun a b=>
 i a b) (
 Pk a undef (.bool false) b fun a b=>
 i a b))/\
 ∀ j _ _ _ _ _ _ _ _:Value,∀ k:World,i j k->
 CondV j (
 Fd 36 a 3 k fun a b=>
 Ld 34 a b fun a b=>
 Ia 34 a c b fun a b=>
 Ld 36 a b fun a b=>
 Ca 146 [a,p1,e] b fun a b=>
 Ex a 0 36 b fun b i=>
 Ex a 1 3 i fun a i=>
 Al 36 i fun i j=>
 St 36 i b j fun _ b=>
 Fd 36 d 3 b fun b j=>
 Ld 34 b j fun b j=>
 Ld 36 i j fun i j=>
 RR (av 34 1 [(0,i)]) j fun i j=>
 RR (bx .append #[34,34] 34 [false,false] [b,i]) j fun b i=>
 Fd 36 d 3 i fun d i=>
 St 34 d b i fun _ b=>
 Bb .add 3 c (nn 1) b fun b d=>
 f b a d/\g b a d<g c e h) (
 Ld 36 d k fun a c=>
 St 36 b a c fun _ a=>
 (aO Tryz.prog 36 b a fun b=>R (.returned (.tuple #[b,e])) a)))))
theorem xt (h:tW p0 p1 p2 w R):CC 146 #[p0,p1,p2] w R:=
  aw (.seq none .leaf (.seq none .leaf (.seq none .leaf (.seq none .leaf (.seq none .leaf (.seq none (.seq none .leaf (.one (.loop [10,9] (.seq none (.seq (some [36]) .leaf .leaf) .leaf)))) .leaf)))))) [p0,p1,p2] bo Tryz.func146 (by kernel_rfl) (by kernel_rfl) h

def g8:V2:=fun p0 p1 w R=>
 Ca 171 [p0,p1] w fun a b=>
 Bb .geq 3 a (nn 0) b fun a b=>
 R (.returned a) b
theorem jZ (h:g8 p0 p1 w R):CC 147 #[p0,p1] w R:=
  aw .leaf [p0,p1] bo Tryz.func147 (by kernel_rfl) (by kernel_rfl) h

def vh:V3:=fun p0 p1 p2 w R=>
 Bb .geq 3 p1 (nn 0) w fun a b=>
 ((fun c:VW=>ag a true (
 Ln 9 p0 b fun b d=>
 Ba .lss 3 p1 b d fun b d=>
 Pk a b (.bool false) d fun a b=>c a b) (
 Pk a undef (.bool false) b fun a b=>c a b)) fun a b=>
 ag a true (
 Ix 9 p0 p1 5 b fun b c=>
 Ba .eql 5 b p2 c fun b c=>
 Pk a b (.bool false) c fun a b=>
 R (.returned a) b) (
 Pk a undef (.bool false) b fun a b=>
 R (.returned a) b))
theorem yb (h:vh p0 p1 p2 w R):CC 151 #[p0,p1,p2] w R:=
  aw .leaf [p0,p1,p2] bo Tryz.func151 (by kernel_rfl) (by kernel_rfl) h

def rZ:V2:=fun p0 p1 w R=>
 RR (av 34 0 []) w fun a b=>
 (∃ (c:QP2) (d:QN2),c p1 a b/\
 ∀ a _ _ _ _ _ _ _ _ b _ _ _ _ _ _ _ _ _ _ _ _ _ _ _ _ _ _ _:Value,∀ e:World,c a b e->
 Ln 34 b e fun f g=>
 Bb .leq 3 f (nn 6) g fun f g=>
 CondV f (
 Ca 131 [p0,a,(nn 30),(nn 3)] g fun f g=>
 Ex f 0 36 g fun g h=>
 Ex f 1 3 h fun f h=>
 Al 36 h fun h i=>
 St 36 h g i fun _ g=>
 Bb .lss 3 f (nn 0) g fun g i=>
 CondV g (
 R (.returned (.tuple #[(Value.slice none 0 0),(.int .i64 (-1))])) i) (
 Ld 36 h i fun g h=>
 RR (av 34 1 [(0,g)]) h fun g h=>
 RR (bx .append #[34,34] 34 [false,false] [b,g]) h fun g h=>
 Ca 151 [p0,f,(.int .u8 44)] h fun h i=>
 Nt h i fun h i=>
 CondV h (
 R (.returned (.tuple #[g,f])) i) (
 Bb .add 3 f (nn 1) i fun f h=>
 c f g h/\d f g h<d a b e))) (
 R (.returned (.tuple #[(Value.slice none 0 0),(.int .i64 (-1))])) g))
theorem wa (h:rZ p0 p1 w R):CC 152 #[p0,p1] w R:=
  aw (.seq none .leaf (.seq none .leaf (.seq none (.one (.loop [1,6] .leaf)) .leaf))) [p0,p1] bo Tryz.func152 (by kernel_rfl) (by kernel_rfl) h

def jl:V1:=fun p0 w R=>
 Bx 56 p0 w fun a b=>
 Ld 56 a b fun b c=>
 Ca 54 [b] c fun b c=>
 Nt b c fun b c=>
 CondV b (
 R (.returned (.string ⟨#[]⟩)) c) (
 Ld 56 a c fun a b=>
 Ca 173 [a] b fun a b=>
 R (.returned a) b)
theorem m1 (h:jl p0 w R):CC 153 #[p0] w R:=
  aw .leaf [p0] bo Tryz.func153 (by kernel_rfl) (by kernel_rfl) h

def rj:V3:=fun p0 p1 p2 w R=>
 Al 36 w fun a b=>
 (∃ c:QP1,(
 Bb .lss 3 p2 (nn 1) b fun a b=>
 ag a false (
 Ln 9 p0 b fun b d=>
 Ba .geq 3 p1 b d fun b d=>
 Pk a (.bool true) b d fun a b=>
 c a b) (
 Pk a (.bool true) undef b fun a b=>
 c a b))/\
 ∀ b _ _ _ _ _ _ _:Value,∀ d:World,c b d->
 CondV b (
 Ca 174 [p1] d fun b c=>
 Ex b 0 36 c fun c d=>
 Ex b 1 3 d fun b d=>
 St 36 a c d fun _ c=>
 (aO Tryz.prog 36 a c fun a=>R (.returned (.tuple #[a,b])) c)) (
 Ix 9 p0 p1 5 d fun b c=>
 Bb .eql 5 b (.int .u8 40) c fun b c=>
 CondV b (
 Bb .add 3 p1 (nn 1) c fun b c=>
 Ca 131 [p0,b,p2,(nn 3)] c fun b c=>
 Ex b 0 36 c fun c d=>
 Ex b 1 3 d fun b d=>
 Al 36 d fun d e=>
 St 36 d c e fun _ c=>
 Bb .lss 3 b (nn 0) c fun c e=>
 CondV c (
 RR (bD 36 []) e fun c d=>
 St 36 a c d fun _ c=>
 (aO Tryz.prog 36 a c fun a=>R (.returned (.tuple #[a,b])) c)) (
 Ca 151 [p0,b,(.int .u8 41)] e fun c e=>
 Nt c e fun c e=>
 CondV c (
 Ca 174 [b] e fun b c=>
 Ex b 0 36 c fun c d=>
 Ex b 1 3 d fun b d=>
 St 36 a c d fun _ c=>
 (aO Tryz.prog 36 a c fun a=>R (.returned (.tuple #[a,b])) c)) (
 Ld 36 d e fun c d=>
 Bb .add 3 b (nn 1) d fun b d=>
 St 36 a c d fun _ c=>
 (aO Tryz.prog 36 a c fun a=>R (.returned (.tuple #[a,b])) c)))) (
 (∃ b:QP1,(
 Ix 9 p0 p1 5 c fun a c=>
 Bb .eql 5 a (.int .u8 91) c fun a c=>
 ag a true (
 Bb .add 3 p1 (nn 1) c fun c d=>
 Ca 151 [p0,c,(.int .u8 93)] d fun c d=>
 Nt c d fun c d=>
 Pk a c (.bool false) d fun a c=>
 b a c) (
 Pk a undef (.bool false) c fun a c=>
 b a c))/\
 ∀ c _ _ _ _ _ _ _ _ _ _:Value,∀ d:World,b c d->
 CondV c (
 Bb .add 3 p1 (nn 1) d fun b c=>
 Bb .sub 3 p2 (nn 1) c fun c d=>
 Ca 175 [p0,b,c] d fun b c=>
 Ex b 0 36 c fun c d=>
 Ex b 1 3 d fun b d=>
 St 36 a c d fun _ c=>
 (aO Tryz.prog 36 a c fun a=>R (.returned (.tuple #[a,b])) c)) (
 (∃ b:QP1,(
 Ix 9 p0 p1 5 d fun a c=>
 Bb .geq 5 a (.int .u8 65) c fun a c=>
 ag a true (
 Ix 9 p0 p1 5 c fun c d=>
 Bb .leq 5 c (.int .u8 90) d fun c d=>
 Pk a c (.bool false) d fun a c=>
 b a c) (
 Pk a undef (.bool false) c fun a c=>
 b a c))/\
 ∀ c _ _ _ _ _ _ _ _ _:Value,∀ d:World,b c d->
 CondV c (
 Ix 9 p0 p1 5 d fun b c=>
 Bb .sub 5 b (.int .u8 65) c fun b c=>
 RR (sOp (.convert 5 3 (.const b)) 3) c fun b c=>
 Ca 107 [b] c fun b c=>
 Bb .add 3 p1 (nn 1) c fun c d=>
 St 36 a b d fun _ b=>
 (aO Tryz.prog 36 a b fun a=>R (.returned (.tuple #[a,c])) b)) (
 (∃ b:QP1,(
 Ca 176 [p0,p1] d fun a c=>
 ag a false (
 Ix 9 p0 p1 5 c fun c d=>
 Bb .eql 5 c (.int .u8 45) d fun c d=>
 ag c true (
 Bb .add 3 p1 (nn 1) d fun d e=>
 Ca 176 [p0,d] e fun d e=>
 ag a false (
 Pk c d (.bool false) e fun c d=>
 Pk a (.bool true) c d fun a c=>
 b a c) (
 Pk a (.bool true) undef e fun a c=>
 b a c)) (
 ag a false (
 Pk c undef (.bool false) d fun c d=>
 Pk a (.bool true) c d fun a c=>
 b a c) (
 Pk a (.bool true) undef d fun a c=>
 b a c))) (
 ag undef true (
 Bb .add 3 p1 (nn 1) c fun c d=>
 Ca 176 [p0,c] d fun c d=>
 ag a false (
 Pk undef c (.bool false) d fun c d=>
 Pk a (.bool true) c d fun a c=>
 b a c) (
 Pk a (.bool true) undef d fun a c=>
 b a c)) (
 ag a false (
 Pk undef undef (.bool false) c fun c d=>
 Pk a (.bool true) c d fun a c=>
 b a c) (
 Pk a (.bool true) undef c fun a c=>
 b a c))))/\
 ∀ c _ _ _ _ _ _ _ _ _ _ _ _ _ _:Value,∀ d:World,b c d->
 CondV c (
 Ca 177 [p0,p1] d fun b c=>
 Ex b 0 36 c fun c d=>
 Ex b 1 3 d fun b d=>
 Al 36 d fun d e=>
 St 36 d c e fun _ c=>
 Bb .lss 3 b (nn 0) c fun c e=>
 CondV c (
 Ca 174 [p1] e fun b c=>
 Ex b 0 36 c fun c d=>
 Ex b 1 3 d fun b d=>
 St 36 a c d fun _ c=>
 (aO Tryz.prog 36 a c fun a=>R (.returned (.tuple #[a,b])) c)) (
 Ld 36 d e fun c d=>
 St 36 a c d fun _ c=>
 (aO Tryz.prog 36 a c fun a=>R (.returned (.tuple #[a,b])) c))) (
 Ca 178 [p0,p1] d fun b c=>
 Ex b 0 9 c fun c d=>
 Ex b 1 3 d fun b d=>
 Bb .lss 3 b (nn 0) d fun d e=>
 CondV d (
 Ca 174 [p1] e fun b c=>
 Ex b 0 36 c fun c d=>
 Ex b 1 3 d fun b d=>
 St 36 a c d fun _ c=>
 (aO Tryz.prog 36 a c fun a=>R (.returned (.tuple #[a,b])) c)) (
 Ca 151 [p0,b,(.int .u8 40)] e fun d e=>
 Nt d e fun d e=>
 CondV d (
 Ca 70 [c,(Value.slice none 0 0)] e fun c d=>
 St 36 a c d fun _ c=>
 (aO Tryz.prog 36 a c fun a=>R (.returned (.tuple #[a,b])) c)) (
 Bb .add 3 b (nn 1) e fun b d=>
 Bb .sub 3 p2 (nn 1) d fun d e=>
 Ca 179 [p0,b,d,(.int .u8 41),(.int .u8 41)] e fun b d=>
 Ex b 0 34 d fun d e=>
 Ex b 1 3 e fun b e=>
 Bb .lss 3 b (nn 0) e fun e f=>
 CondV e (
 RR (bD 36 []) f fun c d=>
 St 36 a c d fun _ c=>
 (aO Tryz.prog 36 a c fun a=>R (.returned (.tuple #[a,b])) c)) (
 RR (bD 36 [(0,(nn 3)),(2,c),(3,d)]) f fun c d=>
 Bb .add 3 b (nn 1) d fun b d=>
 St 36 a c d fun _ c=>
 (aO Tryz.prog 36 a c fun a=>R (.returned (.tuple #[a,b])) c)))))))))))))
theorem wA (h:rj p0 p1 p2 w R):CC 154 #[p0,p1,p2] w R:=
  aw (.seq none .leaf (.seq none (.seq (some [23]) .leaf .leaf) (.seq none .leaf (.seq none (.seq (some [65]) .leaf .leaf) (.seq none (.seq (some [83]) .leaf .leaf) (.seq none (.seq (some [106]) .leaf .leaf) .leaf)))))) [p0,p1,p2] bo Tryz.func154 (by kernel_rfl) (by kernel_rfl) h

def AW:V2:=fun p0 p1 w R=>
 (∃ a:QP1,(
 Ca 151 [p0,p1,(.int .u8 32)] w fun b c=>
 CondV b (
 Bb .add 3 p1 (nn 1) c fun b c=>
 a b c) (
 a p1 c))/\
 ∀ b _ _ _ _ _:Value,∀ c:World,a b c->
 Ln 9 p0 c fun a c=>
 Ba .geq 3 b a c fun a c=>
 CondV a (
 R (.returned (.tuple #[(.string ⟨#[]⟩),p1])) c) (
 Ca 178 [p0,b] c fun a c=>
 Ex a 0 9 c fun c d=>
 Ex a 1 3 d fun a d=>
 (∃ e:QP1,(
 Bb .lss 3 a (nn 0) d fun a b=>
 ag a false (
 Ca 117 [c] b fun b c=>
 Bb .eql 3 b (nn 0) c fun b c=>
 Pk a (.bool true) b c fun a b=>
 e a b) (
 Pk a (.bool true) undef b fun a b=>
 e a b))/\
 ∀ d _ _ _ _ _ _:Value,∀ f:World,e d f->
 CondV d (
 R (.returned (.tuple #[(.string ⟨#[]⟩),p1])) f) (
 (∃ d:QP1,(
 Bb .eql 9 c (.string ⟨#[105,115]⟩) f fun a b=>
 ag a false (
 Bb .eql 9 c (.string ⟨#[109,111,100]⟩) b fun b c=>
 Pk a (.bool true) b c fun a b=>
 d a b) (
 Pk a (.bool true) undef b fun a b=>
 d a b))/\
 ∀ e _ _ _ _ _ _:Value,∀ f:World,d e f->
 (∃ d:QP1,(
 Ba .gtr 3 b p1 f fun b c=>
 Ba .neq 4 e b c fun b c=>
 ag b false (
 ag e true (
 Ca 151 [p0,a,(.int .u8 32)] c fun a c=>
 Nt a c fun a c=>
 ag b false (
 Pk e a (.bool false) c fun a c=>
 Pk b (.bool true) a c fun a b=>
 d a b) (
 Pk b (.bool true) undef c fun a b=>
 d a b)) (
 ag b false (
 Pk e undef (.bool false) c fun a c=>
 Pk b (.bool true) a c fun a b=>
 d a b) (
 Pk b (.bool true) undef c fun a b=>
 d a b))) (
 ag undef true (
 Ca 151 [p0,a,(.int .u8 32)] c fun a c=>
 Nt a c fun a c=>
 ag b false (
 Pk undef a (.bool false) c fun a c=>
 Pk b (.bool true) a c fun a b=>
 d a b) (
 Pk b (.bool true) undef c fun a b=>
 d a b)) (
 ag b false (
 Pk undef undef (.bool false) c fun a c=>
 Pk b (.bool true) a c fun a b=>
 d a b) (
 Pk b (.bool true) undef c fun a b=>
 d a b))))/\
 ∀ b _ _ _ _ _ _ _ _ _ _ _ _ _:Value,∀ f:World,d b f->
 CondV b (
 R (.returned (.tuple #[(.string ⟨#[]⟩),p1])) f) (
 (∃ b:QP1,(
 CondV e (
 Bb .add 3 a (nn 1) f fun a c=>
 b a c) (
 b a f))/\
 ∀ a _ _ _:Value,∀ d:World,b a d->
 R (.returned (.tuple #[c,a])) d))))))))
theorem DB (h:AW p0 p1 w R):CC 155 #[p0,p1] w R:=
  aw (.seq none .leaf (.seq none .leaf (.seq (some [6]) .leaf (.seq none .leaf (.seq none .leaf (.seq none (.seq (some [33]) .leaf .leaf) (.seq (some [9]) .leaf (.seq none (.seq (some [54]) .leaf .leaf) (.seq (some [8]) .leaf .leaf))))))))) [p0,p1] bo Tryz.func155 (by kernel_rfl) (by kernel_rfl) h

def mW (w:World) (R:Ending->World->Prop):Prop:=
 RR (av 120 24 [(0,(.string ⟨#[97,112,112,40,65,44,66,44,91,49,44,50,93,41]⟩)),(1,(.string ⟨#[97,112,112,40,91,49,93,44,91,50,93,44,65,41]⟩)),(2,(.string ⟨#[109,101,109,40,65,44,91,97,44,98,44,99,93,41]⟩)),(3,(.string ⟨#[113,40,65,41]⟩)),(4,(.string ⟨#[114,40,65,44,66,41,44,65,62,66]⟩)),(5,(.string ⟨#[108,101,110,40,91,97,44,98,44,99,93,44,65,41]⟩)),(6,(.string ⟨#[109,97,120,40,51,44,50,44,65,41]⟩)),(7,(.string ⟨#[109,97,120,40,65,44,50,44,51,41]⟩)),(8,(.string ⟨#[116,40,97,44,65,41]⟩)),(9,(.string ⟨#[108,111,111,112]⟩)),(10,(.string ⟨#[111,107,44,33]⟩)),(11,(.string ⟨#[102,97,99,40,52,44,65,41]⟩)),(12,(.string ⟨#[115,40,65,41]⟩)),(13,(.string ⟨#[114,101,118,40,91,49,44,50,44,51,93,44,91,93,44,65,41]⟩)),(14,(.string ⟨#[98,97,100,40,65,41]⟩)),(15,(.string ⟨#[98,105,103,40,65,41]⟩)),(16,(.string ⟨#[117,110,40,65,41]⟩)),(17,(.string ⟨#[112,40,65,41,44,33,44,112,40,66,41]⟩)),(18,(.string ⟨#[65,61,102,40,66,44,67,41,44,97,114,103,40,49,44,65,44,68,41]⟩)),(19,(.string ⟨#[109,101,109,40,65,44,91,49,44,50,93,41,44,109,101,109,40,66,44,91,65,44,51,93,41]⟩)),(20,(.string ⟨#[65,32,105,115,32,51,47,47,48]⟩)),(21,(.string ⟨#[116,114,117,101]⟩)),(22,(.string ⟨#[109,101,109,40,65,44,66,41]⟩)),(23,(.string ⟨#[112,40,65,41,44,65,92,61,50]⟩))]) w fun a b=>
 R (.returned a) b
theorem pY {w:World} {R:Ending->World->Prop} (h:mW w R):Calls Tryz.prog 156 #[] w R:=
  aw .leaf [] bo Tryz.func156 (by kernel_rfl) (by kernel_rfl) h


def lC:V1:=fun p0 w R=>
 (∃ (a:QP1) (b:QN1),a (nn 0) w/\
 ∀ c _ _ _ _ _ _ _ _ _ _ _ _ _ _ _ _ _:Value,∀ d:World,a c d->
 (∃ e:QP1,(
 Ln 34 p0 d fun a b=>
 Ba .lss 3 c a b fun a b=>
 ag a true (
 Bb .leq 3 c (nn 6) b fun b c=>
 Pk a b (.bool false) c fun a b=>
 e a b) (
 Pk a undef (.bool false) b fun a b=>
 e a b))/\
 ∀ f _ _ _ _ _ _ _:Value,∀ g:World,e f g->
 CondV f (
 Ia 34 p0 c g fun e f=>
 Ld 36 e f fun e f=>
 Ca 79 [e] f fun e f=>
 Nt e f fun e f=>
 CondV e (
 R (.returned (.bool false)) f) (
 Bb .add 3 c (nn 1) f fun e f=>
 a e f/\b e f<b c d)) (
 Ln 34 p0 g fun a b=>
 Bb .leq 3 a (nn 6) b fun a b=>
 R (.returned a) b)))
theorem pj (h:lC p0 w R):CC 157 #[p0] w R:=
  aw (.seq none .leaf (.seq none (.seq none .leaf (.one (.loop [3] (.seq none (.seq (some [11]) .leaf .leaf) .leaf)))) .leaf)) [p0] bo Tryz.func157 (by kernel_rfl) (by kernel_rfl) h

def qK:V2:=fun p0 p1 w R=>
 Bx 36 p0 w fun a b=>
 Al 36 b fun b c=>
 Fd 36 a 0 c fun c d=>
 Ld 3 c d fun c d=>
 Fd 36 a 1 d fun d e=>
 Ld 3 d e fun d e=>
 Fd 36 a 2 e fun e f=>
 Ld 9 e f fun e f=>
 RR (bD 36 [(0,c),(1,d),(2,e)]) f fun c d=>
 Al 36 d fun d e=>
 St 36 d c e fun _ c=>
 (∃ e:World->Prop,(
 Fd 36 a 0 c fun b c=>
 Ld 3 b c fun b c=>
 Bb .eql 3 b (nn 1) c fun b c=>
 CondV b (
 Fd 36 a 1 c fun a b=>
 Ld 3 a b fun a b=>
 Ba .add 3 a p1 b fun a b=>
 Fd 36 d 1 b fun b c=>
 St 3 b a c fun _ a=>
 e a) (
 e c))/\
 ∀ _ _ _ _ _ _ _ _:Value,∀ c:World,e c->
 (∃ (e:QP1) (f:QN1),e (nn 0) c/\
 ∀ c _ _ g h i j k l m n o p q r _ _ _ _ _:Value,∀ s:World,e c s->
 Fd 36 a 3 s fun t u=>
 Ld 34 t u fun t u=>
 Ln 34 t u fun t u=>
 Ba .lss 3 c t u fun t u=>
 CondV t (
 (∃ b:NB->JK,b fF g h i j k l m n o p q r { u with drawn:=u.drawn+1 }/\(
 (∀ a:NB,a 0=false->∀ c e f g h i j k l m n o p,b a c e f g h i j k l m n o p->
 Fd 36 d 3 p fun d o=>
 b (ah a 0) c e f g h i j k l m n d o)/\
 (∀ a:NB,a 1=false->a 0=true->∀ c d e f g h i j k l m n o,b a c d e f g h i j k l m n o->
 Ld 34 n o fun m o=>
 b (ah a 1) c d e f g h i j k l m n o)/\
 (∀ c:NB,c 2=false->∀ d e f g h i j k l m n o p,b c d e f g h i j k l m n o p->
 Fd 36 a 3 p fun a m=>
 b (ah c 2) d e f g h i j k l a n o m)/\
 (∀ a:NB,a 3=false->a 2=true->∀ c d e f g h i j k l m n o,b a c d e f g h i j k l m n o->
 Ld 34 l o fun k o=>
 b (ah a 3) c d e f g h i j k l m n o)/\
 (∀ a:NB,a 4=false->∀ d e f g h i j k l m n o p,b a d e f g h i j k l m n o p->
 b (ah a 4) d e f g h i j c l m n o p)/\
 (∀ a:NB,a 5=false->a 3=true->a 4=true->∀ c d e f g h i j k l m n o,b a c d e f g h i j k l m n o->
 Ia 34 k j o fun i o=>
 b (ah a 5) c d e f g h i j k l m n o)/\
 (∀ a:NB,a 6=false->a 5=true->∀ c d e f g h i j k l m n o,b a c d e f g h i j k l m n o->
 Ld 36 i o fun h o=>
 b (ah a 6) c d e f g h i j k l m n o)/\
 (∀ a:NB,a 7=false->∀ c d e f g h i j k l m n o,b a c d e f g h i j k l m n o->
 b (ah a 7) c d e f p1 h i j k l m n o)/\
 (∀ a:NB,a 8=false->a 6=true->a 7=true->∀ c d e f g h i j k l m n o,b a c d e f g h i j k l m n o->
 Ca 158 [h,g] o fun f o=>
 b (ah a 8) c d e f g h i j k l m n o)/\
 (∀ a:NB,a 9=false->a 8=true->∀ c d e f g h i j k l m n o,b a c d e f g h i j k l m n o->
 RR (av 34 1 [(0,f)]) o fun e o=>
 b (ah a 9) c d e f g h i j k l m n o)/\
 (∀ a:NB,a 10=false->a 1=true->a 9=true->a 8=true->∀ c d e f g h i j k l m n o,b a c d e f g h i j k l m n o->
 RR (bx .append #[34,34] 34 [false,false] [m,e]) o fun d o=>
 b (ah a 10) c d e f g h i j k l m n o)/\
 (∀ a:NB,a 11=false->a 0=true->a 1=true->a 2=true->a 3=true->a 4=true->a 5=true->a 6=true->a 7=true->a 8=true->a 9=true->a 10=true->∀ c e f g h i j k l m n o p,b a c e f g h i j k l m n o p->
 Fd 36 d 3 p fun c d=>
 b (ah a 11) c e f g h i j k l m n o d)/\
 (∀ a:NB,a 12=false->a 11=true->a 10=true->a 10=true->a 0=true->a 1=true->a 2=true->a 3=true->a 4=true->a 5=true->a 6=true->a 7=true->a 8=true->a 9=true->a 10=true->∀ c d e f g h i j k l m n o,b a c d e f g h i j k l m n o->
 St 34 c d o fun _ o=>
 b (ah a 12) c d e f g h i j k l m n o)/\
 True)/\
 ∀ a:NB,a 12=true->a 11=true->a 10=true->a 9=true->a 8=true->a 7=true->a 6=true->a 5=true->a 4=true->a 3=true->a 2=true->a 1=true->a 0=true->∀ d g h i j k l m n o p q r,b a d g h i j k l m n o p q r->
 Bb .add 3 c (nn 1) r fun a b=>
 e a b/\f a b<f c s)) (
 Ld 36 d u fun a c=>
 St 36 b a c fun _ a=>
 (aO Tryz.prog 36 b a fun b=>R (.returned b) a))))
theorem vA (h:qK p0 p1 w R):CC 158 #[p0,p1] w R:=
  aw (.seq none .leaf (.seq none .leaf (.seq (some []) .leaf (.seq none (.seq none .leaf (.one (.loop [6] .leaf))) .leaf)))) [p0,p1] bo Tryz.func158 (by kernel_rfl) (by kernel_rfl) h

def tT:V2:=fun p0 p1 w R=>
 Bx 36 p0 w fun a b=>
 Bb .lss 3 p1 (nn 1) b fun b c=>
 CondV b (
 R (.returned (.bool false)) c) (
 (∃ (b:QP1) (d:QN1),b (nn 0) c/\
 ∀ c _ _ _ _ _ _ _ _ _ _ _ _ _ _ _ _ _:Value,∀ e:World,b c e->
 Fd 36 a 3 e fun f g=>
 Ld 34 f g fun f g=>
 Ln 34 f g fun f g=>
 Ba .lss 3 c f g fun f g=>
 CondV f (
 Fd 36 a 3 g fun a f=>
 Ld 34 a f fun a f=>
 Ia 34 a c f fun a f=>
 Ld 36 a f fun a f=>
 Bb .sub 3 p1 (nn 1) f fun f g=>
 Ca 159 [a,f] g fun a f=>
 Nt a f fun a f=>
 CondV a (
 R (.returned (.bool false)) f) (
 Bb .add 3 c (nn 1) f fun a f=>
 b a f/\d a f<d c e)) (
 R (.returned (.bool true)) g)))
theorem xr (h:tT p0 p1 w R):CC 159 #[p0,p1] w R:=
  aw (.seq none .leaf (.seq none .leaf (.seq none (.seq none .leaf (.one (.loop [5] .leaf))) .leaf))) [p0,p1] bo Tryz.func159 (by kernel_rfl) (by kernel_rfl) h

def oG:V3:=fun p0 p1 p2 w R=>
 Bx 130 p1 w fun a b=>
 Bx 180 p2 b fun b c=>
 Al 130 c fun c d=>
 (∃ (e:QP1) (f:QN1),e (nn 0) d/\
 ∀ d _ _ g h i j k l m n o p q r s t _ _ _ _ _ _ _ _ _ _ _ _ _ _ _ _ _ _ _ _ _ _ _ _:Value,∀ u:World,e d u->
 Fd 180 b 2 u fun v x=>
 Ld 49 v x fun v x=>
 Ln 49 v x fun v x=>
 Ba .lss 3 d v x fun v x=>
 CondV v (
 Ld 180 b x fun v x=>
 Al 180 x fun x y=>
 St 180 x v y fun _ v=>
 Fd 180 b 2 v fun v y=>
 Ld 49 v y fun v y=>
 Bb .add 3 d (nn 1) y fun y z=>
 RR (sOp (.slice 49 (.const v) (some (.const d)) (some (.const y)) none) 49) z fun v y=>
 Fd 180 x 2 y fun y z=>
 St 49 y v z fun _ v=>
 Ld 130 a v fun a v=>
 Ld 180 x v fun v x=>
 Ca 180 [p0,a,v] x fun a v=>
 Ex a 0 130 v fun v x=>
 Ex a 1 4 x fun a x=>
 Al 130 x fun x y=>
 St 130 x v y fun _ v=>
 CondV a (
 (∃ a:NB->Ot,a fF g h i j k l m n o p q r s t { v with drawn:=v.drawn+1 }/\(
 (∀ b:NB,b 0=false->∀ c d e f g h i j k l m n o p q,a b c d e f g h i j k l m n o p q->
 Ld 130 x q fun p q=>
 a (ah b 0) c d e f g h i j k l m n o p q)/\
 (∀ c:NB,c 1=false->∀ d e f g h i j k l m n o p q r,a c d e f g h i j k l m n o p q r->
 Fd 180 b 2 r fun b p=>
 a (ah c 1) d e f g h i j k l m n o b q p)/\
 (∀ b:NB,b 2=false->b 1=true->∀ c d e f g h i j k l m n o p q,a b c d e f g h i j k l m n o p q->
 Ld 49 o q fun n q=>
 a (ah b 2) c d e f g h i j k l m n o p q)/\
 (∀ b:NB,b 3=false->∀ c e f g h i j k l m n o p q r,a b c e f g h i j k l m n o p q r->
 a (ah b 3) c e f g h i j k l m d o p q r)/\
 (∀ b:NB,b 4=false->b 2=true->b 3=true->∀ c d e f g h i j k l m n o p q,a b c d e f g h i j k l m n o p q->
 Ia 49 n m q fun l q=>
 a (ah b 4) c d e f g h i j k l m n o p q)/\
 (∀ b:NB,b 5=false->b 4=true->∀ c d e f g h i j k l m n o p q,a b c d e f g h i j k l m n o p q->
 Ld 3 l q fun k q=>
 a (ah b 5) c d e f g h i j k l m n o p q)/\
 (∀ c:NB,c 6=false->∀ d e f g h i j k l m n o p q r,a c d e f g h i j k l m n o p q r->
 Fd 180 b 2 r fun b k=>
 a (ah c 6) d e f g h i j b l m n o p q k)/\
 (∀ b:NB,b 7=false->b 6=true->∀ c d e f g h i j k l m n o p q,a b c d e f g h i j k l m n o p q->
 Ld 49 j q fun i q=>
 a (ah b 7) c d e f g h i j k l m n o p q)/\
 (∀ b:NB,b 8=false->∀ c e f g h i j k l m n o p q r,a b c e f g h i j k l m n o p q r->
 a (ah b 8) c e f g h d j k l m n o p q r)/\
 (∀ b:NB,b 9=false->b 8=true->∀ c d e f g h i j k l m n o p q,a b c d e f g h i j k l m n o p q->
 Bb .add 3 h (nn 1) q fun g q=>
 a (ah b 9) c d e f g h i j k l m n o p q)/\
 (∀ b:NB,b 10=false->b 7=true->b 9=true->∀ c d e f g h i j k l m n o p q,a b c d e f g h i j k l m n o p q->
 RR (sOp (.slice 49 (.const i) (some (.const g)) none none) 49) q fun f q=>
 a (ah b 10) c d e f g h i j k l m n o p q)/\
 (∀ b:NB,b 11=false->b 0=true->b 0=true->∀ d e f g h i j k l m n o p q r,a b d e f g h i j k l m n o p q r->
 St 130 c q r fun _ c=>
 a (ah b 11) d e f g h i j k l m n o p q c)/\
 (∀ b:NB,b 12=false->b 5=true->b 11=true->b 0=true->b 1=true->b 2=true->b 3=true->b 4=true->b 5=true->b 11=true->∀ c d e f g h i j k l m n o p q,a b c d e f g h i j k l m n o p q->
 a (ah b 12) c d k f g h i j k l m n o p q)/\
 (∀ b:NB,b 13=false->b 10=true->b 12=true->b 0=true->b 1=true->b 2=true->b 3=true->b 4=true->b 5=true->b 6=true->b 7=true->b 8=true->b 9=true->b 10=true->b 11=true->b 12=true->∀ c d e f g h i j k l m n o p q,a b c d e f g h i j k l m n o p q->
 a (ah b 13) c f e f g h i j k l m n o p q)/\
 (∀ b:NB,b 14=false->b 13=true->b 0=true->b 1=true->b 2=true->b 3=true->b 4=true->b 5=true->b 6=true->b 7=true->b 8=true->b 9=true->b 10=true->b 11=true->b 12=true->b 13=true->∀ c d e f g h i j k l m n o p q,a b c d e f g h i j k l m n o p q->
 a (ah b 14) (.bool true) d e f g h i j k l m n o p q)/\
 True)/\
 ∀ b:NB,b 14=true->b 13=true->b 12=true->b 11=true->b 10=true->b 9=true->b 8=true->b 7=true->b 6=true->b 5=true->b 4=true->b 3=true->b 2=true->b 1=true->b 0=true->∀ d e f g h i j k l m n o p q r,a b d e f g h i j k l m n o p q r->
 (aO Tryz.prog 130 c r fun a=>R (.returned (.tuple #[a,f,e,d])) r))) (
 Bb .add 3 d (nn 1) v fun a b=>
 e a b/\f a b<f d u)) (
 Ld 130 a x fun a b=>
 St 130 c a b fun _ a=>
 (aO Tryz.prog 130 c a fun b=>R (.returned (.tuple #[b,(.int .i64 (-1)),(Value.slice none 0 0),(.bool false)])) a)))
theorem tP (h:oG p0 p1 p2 w R):CC 160 #[p0,p1,p2] w R:=
  aw (.seq none .leaf (.seq none (.seq none .leaf (.one (.loop [10] .leaf))) .leaf)) [p0,p1,p2] bo Tryz.func160 (by kernel_rfl) (by kernel_rfl) h

def ut:V1:=fun p0 w R=>
 CondV p0 (
 R (.returned (nn 0)) w) (
 R (.returned (nn 1)) w)
theorem x0 (h:ut p0 w R):CC 161 #[p0] w R:=
  aw .leaf [p0] bo Tryz.func161 (by kernel_rfl) (by kernel_rfl) h

def qj:V3:=fun p0 p1 p2 w R=>
 Bx 36 p0 w fun a b=>
 Bx 36 p1 b fun b c=>
 Ld 36 a c fun c d=>
 Ca 170 [c,p2] d fun c d=>
 St 36 a c d fun _ c=>
 Ld 36 b c fun c d=>
 Ca 170 [c,p2] d fun c d=>
 St 36 b c d fun _ c=>
 (∃ d:QP1,(
 Fd 36 a 0 c fun c e=>
 Ld 3 c e fun c e=>
 Bb .eql 3 c (nn 1) e fun c e=>
 ((fun a:VW=>ag c true (
 Fd 36 b 0 e fun b d=>
 Ld 3 b d fun b d=>
 Bb .eql 3 b (nn 1) d fun b d=>
 Pk c b (.bool false) d fun b c=>a b c) (
 Pk c undef (.bool false) e fun b c=>a b c)) fun c e=>
 ag c true (
 Fd 36 a 1 e fun a e=>
 Ld 3 a e fun a e=>
 Fd 36 b 1 e fun b e=>
 Ld 3 b e fun b e=>
 Ba .eql 3 a b e fun a b=>
 Pk c a (.bool false) b fun a b=>
 d a b) (
 Pk c undef (.bool false) e fun a b=>
 d a b)))/\
 ∀ c _ _ _ _ _ _ _ _ _ _ _ _ _ _:Value,∀ e:World,d c e->
 CondV c (
 R (.returned (.bool true)) e) (
 Fd 36 a 0 e fun c d=>
 Ld 3 c d fun c d=>
 Bb .eql 3 c (nn 1) d fun c d=>
 CondV c (
 Fd 36 a 1 d fun c d=>
 Ld 3 c d fun c d=>
 Ld 36 b d fun d e=>
 Ca 181 [c,d,p2] e fun c d=>
 CondV c (
 R (.returned (.bool false)) d) (
 Fd 36 a 1 d fun a c=>
 Ld 3 a c fun a c=>
 Ld 36 b c fun b c=>
 Ia 34 p2 a c fun a c=>
 St 36 a b c fun _ a=>
 R (.returned (.bool true)) a)) (
 Fd 36 b 0 d fun c d=>
 Ld 3 c d fun c d=>
 Bb .eql 3 c (nn 1) d fun c d=>
 CondV c (
 Ld 36 b d fun b c=>
 Ld 36 a c fun a c=>
 Ca 162 [b,a,p2] c fun a b=>
 R (.returned a) b) (
 (∃ c:QP1,(
 Fd 36 a 0 d fun d e=>
 Ld 3 d e fun d e=>
 Fd 36 b 0 e fun e f=>
 Ld 3 e f fun e f=>
 Ba .neq 3 d e f fun d e=>
 ((fun c:VW=>ag d false (
 Fd 36 a 1 e fun a e=>
 Ld 3 a e fun a e=>
 Fd 36 b 1 e fun b e=>
 Ld 3 b e fun b e=>
 Ba .neq 3 a b e fun a b=>
 Pk d (.bool true) a b fun a b=>c a b) (
 Pk d (.bool true) undef e fun a b=>c a b)) fun d e=>
 ((fun c:VW=>ag d false (
 Fd 36 a 2 e fun a e=>
 Ld 9 a e fun a e=>
 Fd 36 b 2 e fun b e=>
 Ld 9 b e fun b e=>
 Ba .neq 9 a b e fun a b=>
 Pk d (.bool true) a b fun a b=>c a b) (
 Pk d (.bool true) undef e fun a b=>c a b)) fun d e=>
 ag d false (
 Fd 36 a 3 e fun a e=>
 Ld 34 a e fun a e=>
 Ln 34 a e fun a e=>
 Fd 36 b 3 e fun b e=>
 Ld 34 b e fun b e=>
 Ln 34 b e fun b e=>
 Ba .neq 3 a b e fun a b=>
 Pk d (.bool true) a b fun a b=>
 c a b) (
 Pk d (.bool true) undef e fun a b=>
 c a b))))/\
 ∀ d _ _ _ _ _ _ _ _ _ _ _ _ _ _ _ _ _ _ _ _ _ _ _ _ _ _ _:Value,∀ e:World,c d e->
 CondV d (
 R (.returned (.bool false)) e) (
 (∃ (c:QP1) (d:QN1),c (nn 0) e/\
 ∀ e _ _ _ f g h i j k l m n o p q r _ _ _ _ _:Value,∀ s:World,c e s->
 Fd 36 a 3 s fun t u=>
 Ld 34 t u fun t u=>
 Ln 34 t u fun t u=>
 Ba .lss 3 e t u fun t u=>
 CondV t (
 (∃ t:NB->N4,t fF f g h i j k l m n o p q r { u with drawn:=u.drawn+1 }/\(
 (∀ b:NB,b 0=false->∀ c d e f g h i j k l m n o p,t b c d e f g h i j k l m n o p->
 Fd 36 a 3 p fun a o=>
 t (ah b 0) c d e f g h i j k l m n a o)/\
 (∀ a:NB,a 1=false->a 0=true->∀ b c d e f g h i j k l m n o,t a b c d e f g h i j k l m n o->
 Ld 34 n o fun m o=>
 t (ah a 1) b c d e f g h i j k l m n o)/\
 (∀ a:NB,a 2=false->∀ b c d f g h i j k l m n o p,t a b c d f g h i j k l m n o p->
 t (ah a 2) b c d f g h i j k l e n o p)/\
 (∀ a:NB,a 3=false->a 1=true->a 2=true->∀ b c d e f g h i j k l m n o,t a b c d e f g h i j k l m n o->
 Ia 34 m l o fun k o=>
 t (ah a 3) b c d e f g h i j k l m n o)/\
 (∀ a:NB,a 4=false->a 3=true->∀ b c d e f g h i j k l m n o,t a b c d e f g h i j k l m n o->
 Ld 36 k o fun j o=>
 t (ah a 4) b c d e f g h i j k l m n o)/\
 (∀ a:NB,a 5=false->∀ c d e f g h i j k l m n o p,t a c d e f g h i j k l m n o p->
 Fd 36 b 3 p fun b j=>
 t (ah a 5) c d e f g h i b k l m n o j)/\
 (∀ a:NB,a 6=false->a 5=true->∀ b c d e f g h i j k l m n o,t a b c d e f g h i j k l m n o->
 Ld 34 i o fun h o=>
 t (ah a 6) b c d e f g h i j k l m n o)/\
 (∀ a:NB,a 7=false->∀ b c d f g h i j k l m n o p,t a b c d f g h i j k l m n o p->
 t (ah a 7) b c d f g e i j k l m n o p)/\
 (∀ a:NB,a 8=false->a 6=true->a 7=true->∀ b c d e f g h i j k l m n o,t a b c d e f g h i j k l m n o->
 Ia 34 h g o fun f o=>
 t (ah a 8) b c d e f g h i j k l m n o)/\
 (∀ a:NB,a 9=false->a 8=true->∀ b c d e f g h i j k l m n o,t a b c d e f g h i j k l m n o->
 Ld 36 f o fun e o=>
 t (ah a 9) b c d e f g h i j k l m n o)/\
 (∀ a:NB,a 10=false->∀ b c d e f g h i j k l m n o,t a b c d e f g h i j k l m n o->
 t (ah a 10) b c p2 e f g h i j k l m n o)/\
 (∀ a:NB,a 11=false->a 4=true->a 9=true->a 10=true->∀ b c d e f g h i j k l m n o,t a b c d e f g h i j k l m n o->
 Ca 162 [j,e,d] o fun c o=>
 t (ah a 11) b c d e f g h i j k l m n o)/\
 (∀ a:NB,a 12=false->a 11=true->∀ b c d e f g h i j k l m n o,t a b c d e f g h i j k l m n o->
 Nt c o fun b o=>
 t (ah a 12) b c d e f g h i j k l m n o)/\
 True)/\
 ∀ a:NB,a 12=true->a 11=true->a 10=true->a 9=true->a 8=true->a 7=true->a 6=true->a 5=true->a 4=true->a 3=true->a 2=true->a 1=true->a 0=true->∀ b f g h i j k l m n o p q r,t a b f g h i j k l m n o p q r->
 CondV b (
 R (.returned (.bool false)) r) (
 Bb .add 3 e (nn 1) r fun a b=>
 c a b/\d a b<d e s))) (
 R (.returned (.bool true)) u))))))))
theorem vL (h:qj p0 p1 p2 w R):CC 162 #[p0,p1,p2] w R:=
  aw (.seq none .leaf (.seq none .leaf (.seq none .leaf (.seq none (.seq (some [28]) .leaf .leaf) (.seq none .leaf (.seq none .leaf (.seq none (.seq (some [76]) .leaf .leaf) (.seq none (.seq none .leaf (.one (.loop [7] .leaf))) .leaf)))))))) [p0,p1,p2] bo Tryz.func162 (by kernel_rfl) (by kernel_rfl) h

def qy:V1:=fun p0 w R=>
 Bx 36 p0 w fun a b=>
 Fd 36 a 0 b fun b c=>
 Ld 3 b c fun b c=>
 Bb .eql 3 b (nn 1) c fun c d=>
 CondV c (
 R (.returned (.tuple #[(nn 0),(nn 2)])) d) (
 Bb .eql 3 b (nn 2) d fun b c=>
 CondV b (
 Fd 36 a 1 c fun a b=>
 Ld 3 a b fun a b=>
 R (.returned (.tuple #[a,(nn 0)])) b) (
 Fd 36 a 2 c fun b c=>
 Ld 9 b c fun b c=>
 Ca 117 [b] c fun b c=>
 (∃ d:QP1,(
 Fd 36 a 3 c fun a c=>
 Ld 34 a c fun a c=>
 Ln 34 a c fun a c=>
 Bb .neq 3 a (nn 2) c fun a c=>
 ag a false (
 Bb .neq 3 b (nn 1) c fun c e=>
 ag c true (
 Bb .neq 3 b (nn 2) e fun b e=>
 ag a false (
 Pk c b (.bool false) e fun b c=>
 Pk a (.bool true) b c fun a b=>
 d a b) (
 Pk a (.bool true) undef e fun a b=>
 d a b)) (
 ag a false (
 Pk c undef (.bool false) e fun b c=>
 Pk a (.bool true) b c fun a b=>
 d a b) (
 Pk a (.bool true) undef e fun a b=>
 d a b))) (
 ag undef true (
 Bb .neq 3 b (nn 2) c fun b c=>
 ag a false (
 Pk undef b (.bool false) c fun b c=>
 Pk a (.bool true) b c fun a b=>
 d a b) (
 Pk a (.bool true) undef c fun a b=>
 d a b)) (
 ag a false (
 Pk undef undef (.bool false) c fun b c=>
 Pk a (.bool true) b c fun a b=>
 d a b) (
 Pk a (.bool true) undef c fun a b=>
 d a b))))/\
 ∀ b _ _ _ _ _ _ _ _ _ _ _:Value,∀ c:World,d b c->
 CondV b (
 R (.returned (.tuple #[(nn 0),(nn 3)])) c) (
 Fd 36 a 3 c fun b c=>
 Ld 34 b c fun b c=>
 Ia 34 b (nn 0) c fun b c=>
 Ld 36 b c fun b c=>
 Ca 163 [b] c fun b c=>
 Ex b 0 3 c fun c d=>
 Ex b 1 3 d fun b d=>
 Bb .neq 3 b (nn 0) d fun d e=>
 CondV d (
 R (.returned (.tuple #[(nn 0),b])) e) (
 Fd 36 a 3 e fun b d=>
 Ld 34 b d fun b d=>
 Ia 34 b (nn 1) d fun b d=>
 Ld 36 b d fun b d=>
 Ca 163 [b] d fun b d=>
 Ex b 0 3 d fun d e=>
 Ex b 1 3 e fun b e=>
 Bb .neq 3 b (nn 0) e fun e f=>
 CondV e (
 R (.returned (.tuple #[(nn 0),b])) f) (
 Fd 36 a 2 f fun a b=>
 Ld 9 a b fun a b=>
 Ca 182 [a,c,d] b fun a b=>
 Ex a 0 3 b fun b c=>
 Ex a 1 3 c fun a c=>
 R (.returned (.tuple #[b,a])) c))))))
theorem vt (h:qy p0 w R):CC 163 #[p0] w R:=
  aw (.seq none .leaf (.seq none .leaf (.seq none .leaf (.seq none (.seq (some [31]) .leaf .leaf) .leaf)))) [p0] bo Tryz.func163 (by kernel_rfl) (by kernel_rfl) h

end Go.Proofs.YtfcbhfjomgopbaaGreat
