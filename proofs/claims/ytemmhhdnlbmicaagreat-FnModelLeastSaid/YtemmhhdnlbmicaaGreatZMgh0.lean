/- Made by program: the functions in a shallow form; each form gives Calls. -/
import Derived.Test.YtemmhhdnlbmicaaGreatZMgS
import Derived.Test.YtemmhhdnlbmicaaGreatProg
import Derived.KernelRfl
set_option maxRecDepth 100000
namespace Go.Proofs.YtemmhhdnlbmicaaGreat
open Go
theorem be:Tryz.prog.follows .mixedOrders=true:=by kernel_rfl
abbrev RR:=Run Tryz.prog
abbrev VW:=Value->World->Prop
/- loop.example/prologserver/laws.FnModelLeast : function 8 -/
def kW (p0:Value) (w:World) (R:Ending->World->Prop):Prop:=
 RR (ar .len #[22] 3 [false] [p0]) w fun a b=>
 RR (aq .gtr 3 false true a (.int .i64 1048576)) b fun a b=>
 CondV a (
 R (.returned (.bool true)) b) (
 RR (aH (.func (.func 30) #[] #[]) [p0]) b fun a b=>
 RR (sOp (.extract (.const a) 0) 32) b fun b c=>
 RR (sOp (.extract (.const a) 1) 23) c fun a c=>
 RR (aH (.func (.func 29) #[] #[]) [b,a]) c fun c d=>
 RR (aH (.func (.func 17) #[] #[]) [b]) d fun d e=>
 RR (sOp (.extract (.const d) 0) 23) e fun e f=>
 RR (sOp (.extract (.const d) 1) 4) f fun d f=>
 (∃ g:Value->World->Prop,(
 RR (aH (.func (.func 31) #[] #[]) [b,a]) f fun a b=>
 RR (aq .neq 4 false false c a) b fun a b=>
 ((fun d:VW=>aj a false (
 RR (sOp (.unOp .not 4 (.const c)) 4) b fun b c=>
 RR (sOp (.pick (.const a) (.const (.bool true)) (.const b)) 4) c fun a b=>d a b) (
 RR (sOp (.pick (.const a) (.const (.bool true)) (.const undef)) 4) b fun a b=>d a b)) fun a b=>
 aj a false (
 RR (sOp (.unOp .not 4 (.const d)) 4) b fun b c=>
 RR (sOp (.pick (.const a) (.const (.bool true)) (.const b)) 4) c fun a b=>
 g a b) (
 RR (sOp (.pick (.const a) (.const (.bool true)) (.const undef)) 4) b fun a b=>
 g a b)))/\
 ∀ d _ _ _ _ _ _ _ _ _ _ _ _:Value,∀ f:World,g d f->
 CondV d (
 RR (aH (.func (.func 31) #[] #[]) [b,a]) f fun a b=>
 RR (aq .eql 4 false false c a) b fun a b=>
 R (.returned a) b) (
 (∃ (b:Value->World->Prop) (c:Value->World->Nat),b (.int .i64 0) f/\
 ∀ d _ _ _ _ _ _ _ _ _ _ _ _ _ _:Value,∀ f:World,b d f->
 RR (ar .len #[23] 3 [false] [e]) f fun g h=>
 RR (aq .lss 3 false false d g) h fun g h=>
 CondV g (
 RR (sOp (.indexAddr 23 (.const e) (.const d)) 0) h fun e g=>
 RR (sOp (.load 25 (.const e)) 25) g fun e g=>
 RR (aH (.func (.func 27) #[] #[]) [a,e]) g fun a e=>
 RR (sOp (.unOp .not 4 (.const a)) 4) e fun a e=>
 CondV a (
 R (.returned (.bool false)) e) (
 RR (aq .add 3 false true d (.int .i64 1)) e fun a e=>
 b a e/\c a e<c d f)) (
 R (.returned (.bool true)) h)))))
theorem pe {p0:Value} {w:World} {R:Ending->World->Prop} (h:kW p0 w R):Calls Tryz.prog 8 #[p0] w R:=
  aK (.seq none .leaf (.seq none .leaf (.seq none .leaf (.seq none .leaf (.seq none .leaf (.seq none (.seq (some [37]) .leaf .leaf) (.seq none (.seq none .leaf (.one (.loop [8] .leaf))) .leaf))))))) [p0] be Tryz.func8 (by kernel_rfl) (by kernel_rfl) h


/- loop.example/prologserver/impl.FlatProgram : function 15 -/
def mj (p0:Value) (w:World) (R:Ending->World->Prop):Prop:=
 RR (aH (.func (.func 23) #[] #[]) [p0]) w fun a b=>
 aj a true (
 RR (aH (.func (.func 46) #[] #[]) [p0,(.func (.func 47) #[] #[])]) b fun b c=>
 RR (sOp (.unOp .not 4 (.const b)) 4) c fun b c=>
 RR (sOp (.pick (.const a) (.const b) (.const (.bool false))) 4) c fun a b=>
 R (.returned a) b) (
 RR (sOp (.pick (.const a) (.const undef) (.const (.bool false))) 4) b fun a b=>
 R (.returned a) b)
theorem p9 {p0:Value} {w:World} {R:Ending->World->Prop} (h:mj p0 w R):Calls Tryz.prog 15 #[p0] w R:=
  aK .leaf [p0] be Tryz.func15 (by kernel_rfl) (by kernel_rfl) h


/- loop.example/prologserver/impl.LeastModel : function 17 -/
def m8 (p0:Value) (w:World) (R:Ending->World->Prop):Prop:=
 RR (aH (.func (.func 25) #[] #[]) [p0,(.int .i64 61)]) w fun a b=>
 RR (sOp (.extract (.const a) 0) 23) b fun b c=>
 RR (sOp (.extract (.const a) 1) 4) c fun a c=>
 R (.returned (.tuple #[b,a])) c
theorem rH {p0:Value} {w:World} {R:Ending->World->Prop} (h:m8 p0 w R):Calls Tryz.prog 17 #[p0] w R:=
  aK .leaf [p0] be Tryz.func17 (by kernel_rfl) (by kernel_rfl) h


/- loop.example/prologserver/spec.FlatProgram : function 18 -/
def l7 (p0:Value) (w:World) (R:Ending->World->Prop):Prop:=
 (∃ (a:Value->World->Prop) (b:Value->World->Nat),a (.int .i64 0) w/\
 ∀ c _ _ _ _ _ _ _ _ _ _ _ _ _ _ _ _ _:Value,∀ d:World,a c d->
 (∃ e:Value->World->Prop,(
 RR (ar .len #[32] 3 [false] [p0]) d fun a b=>
 RR (aq .lss 3 false false c a) b fun a b=>
 aj a true (
 RR (aH (.func (.func 50) #[] #[]) [p0]) b fun b c=>
 RR (sOp (.pick (.const a) (.const b) (.const (.bool false))) 4) c fun a b=>
 e a b) (
 RR (sOp (.pick (.const a) (.const undef) (.const (.bool false))) 4) b fun a b=>
 e a b))/\
 ∀ f _ _ _ _ _ _ _:Value,∀ g:World,e f g->
 CondV f (
 RR (sOp (.indexAddr 32 (.const p0) (.const c)) 0) g fun e f=>
 RR (sOp (.load 39 (.const e)) 39) f fun e f=>
 RR (aH (.func (.func 51) #[] #[]) [e]) f fun e f=>
 RR (sOp (.unOp .not 4 (.const e)) 4) f fun e f=>
 CondV e (
 R (.returned (.bool false)) f) (
 RR (aq .add 3 false true c (.int .i64 1)) f fun e f=>
 a e f/\b e f<b c d)) (
 RR (aH (.func (.func 50) #[] #[]) [p0]) g fun a b=>
 R (.returned a) b)))
theorem p6 {p0:Value} {w:World} {R:Ending->World->Prop} (h:l7 p0 w R):Calls Tryz.prog 18 #[p0] w R:=
  aK (.seq none .leaf (.seq none (.seq none .leaf (.one (.loop [3] (.seq none (.seq (some [11]) .leaf .leaf) .leaf)))) .leaf)) [p0] be Tryz.func18 (by kernel_rfl) (by kernel_rfl) h


/- loop.example/prologserver/impl.ProgramValid : function 23 -/
def kT (p0:Value) (w:World) (R:Ending->World->Prop):Prop:=
 RR (ar .len #[32] 3 [false] [p0]) w fun a b=>
 RR (aq .leq 3 false true a (.int .i64 20)) b fun a b=>
 aj a true (
 RR (aH (.func (.func 46) #[] #[]) [p0,(.func (.func 58) #[] #[])]) b fun b c=>
 RR (sOp (.unOp .not 4 (.const b)) 4) c fun b c=>
 RR (sOp (.pick (.const a) (.const b) (.const (.bool false))) 4) c fun a b=>
 R (.returned a) b) (
 RR (sOp (.pick (.const a) (.const undef) (.const (.bool false))) 4) b fun a b=>
 R (.returned a) b)
theorem pc {p0:Value} {w:World} {R:Ending->World->Prop} (h:kT p0 w R):Calls Tryz.prog 23 #[p0] w R:=
  aK .leaf [p0] be Tryz.func23 (by kernel_rfl) (by kernel_rfl) h


/- loop.example/prologserver/impl.StageModel : function 25 -/
def ne (p0 p1:Value) (w:World) (R:Ending->World->Prop):Prop:=
 RR (aq .lss 3 false true p1 (.int .i64 0)) w fun a b=>
 CondV a (
 R (.returned (.tuple #[(Value.slice none 0 0),(.bool false)])) b) (
 RR (aH (.func (.func 49) #[] #[]) [p0,p1]) b fun a b=>
 RR (sOp (.extract (.const a) 0) 23) b fun b c=>
 RR (sOp (.extract (.const a) 1) 3) c fun _ c=>
 RR (sOp (.extract (.const a) 2) 4) c fun a c=>
 RR (aH (.func (.func 36) #[] #[]) [b]) c fun b c=>
 R (.returned (.tuple #[b,a])) c)
theorem rq {p0 p1:Value} {w:World} {R:Ending->World->Prop} (h:ne p0 p1 w R):Calls Tryz.prog 25 #[p0,p1] w R:=
  aK .leaf [p0,p1] be Tryz.func25 (by kernel_rfl) (by kernel_rfl) h


/- loop.example/prologserver/spec.StageModel : function 26 -/
def nr (p0 p1:Value) (w:World) (R:Ending->World->Prop):Prop:=
 (∃ a:Value->World->Prop,(
 RR (aH (.func (.func 18) #[] #[]) [p0]) w fun b c=>
 RR (sOp (.unOp .not 4 (.const b)) 4) c fun b c=>
 aj b false (
 RR (aq .lss 3 false true p1 (.int .i64 0)) c fun c d=>
 RR (sOp (.pick (.const b) (.const (.bool true)) (.const c)) 4) d fun b c=>
 a b c) (
 RR (sOp (.pick (.const b) (.const (.bool true)) (.const undef)) 4) c fun b c=>
 a b c))/\
 ∀ b _ _ _ _ _ _:Value,∀ c:World,a b c->
 CondV b (
 RR (aS 23 0 []) c fun a b=>
 R (.returned (.tuple #[a,(.bool false)])) b) (
 (∃ a:Value->World->Prop,(
 RR (aq .gtr 3 false true p1 (.int .i64 60)) c fun b c=>
 CondV b (
 a (.int .i64 61) c) (
 a p1 c))/\
 ∀ b _ _:Value,∀ c:World,a b c->
 RR (aH (.func (.func 52) #[] #[]) [p0,b]) c fun a b=>
 RR (sOp (.extract (.const a) 0) 23) b fun b c=>
 RR (sOp (.extract (.const a) 1) 3) c fun _ a=>
 RR (ar .len #[23] 3 [false] [b]) a fun a c=>
 RR (aq .gtr 3 false true a (.int .i64 60)) c fun a c=>
 CondV a (
 RR (aS 23 0 []) c fun a b=>
 R (.returned (.tuple #[a,(.bool false)])) b) (
 RR (aH (.func (.func 62) #[] #[]) [b]) c fun a b=>
 R (.returned (.tuple #[a,(.bool true)])) b))))
theorem qW {p0 p1:Value} {w:World} {R:Ending->World->Prop} (h:nr p0 p1 w R):Calls Tryz.prog 26 #[p0,p1] w R:=
  aK (.seq none .leaf (.seq none (.seq (some [14]) .leaf .leaf) (.seq (some [1]) .leaf .leaf))) [p0,p1] be Tryz.func26 (by kernel_rfl) (by kernel_rfl) h


/- loop.example/prologserver/laws.pgFact : function 27 -/
def xh (p0 p1:Value) (w:World) (R:Ending->World->Prop):Prop:=
 RR (sOp (.box 25 (.const p1)) 0) w fun a b=>
 (∃ (c:Value->World->Prop) (d:Value->World->Nat),c (.int .i64 0) b/\
 ∀ b _ _ _ e f g h i j _ _ _ _:Value,∀ k:World,c b k->
 RR (ar .len #[23] 3 [false] [p0]) k fun l m=>
 RR (aq .lss 3 false false b l) m fun l m=>
 CondV l (
 (∃ l:(Nat->Bool)->Value->Value->Value->Value->Value->Value->World->Prop,l (fun _=>false) e f g h i j { m with drawn:=m.drawn+1 }/\(
 (∀ a:Nat->Bool,a 0=false->∀ b c d e f g h,l a b c d e f g h->
 l (ay a 0) b c d e f p0 h)/\
 (∀ a:Nat->Bool,a 1=false->∀ c d e f g h i,l a c d e f g h i->
 l (ay a 1) c d e f b h i)/\
 (∀ a:Nat->Bool,a 2=false->a 0=true->a 1=true->∀ b c d e f g h,l a b c d e f g h->
 RR (sOp (.indexAddr 23 (.const g) (.const f)) 0) h fun e h=>
 l (ay a 2) b c d e f g h)/\
 (∀ a:Nat->Bool,a 3=false->a 2=true->∀ b c d e f g h,l a b c d e f g h->
 RR (sOp (.load 25 (.const e)) 25) h fun d h=>
 l (ay a 3) b c d e f g h)/\
 (∀ b:Nat->Bool,b 4=false->∀ c d e f g h i,l b c d e f g h i->
 RR (sOp (.load 25 (.const a)) 25) i fun a d=>
 l (ay b 4) c a e f g h d)/\
 (∀ a:Nat->Bool,a 5=false->a 3=true->a 4=true->∀ b c d e f g h,l a b c d e f g h->
 RR (aH (.func (.func 40) #[] #[]) [d,c]) h fun b h=>
 l (ay a 5) b c d e f g h)/\
 True)/\
 ∀ a:Nat->Bool,a 5=true->a 4=true->a 3=true->a 2=true->a 1=true->a 0=true->∀ e f g h i j m,l a e f g h i j m->
 CondV e (
 R (.returned (.bool true)) m) (
 RR (aq .add 3 false true b (.int .i64 1)) m fun a e=>
 c a e/\d a e<d b k))) (
 R (.returned (.bool false)) m))
theorem yR {p0 p1:Value} {w:World} {R:Ending->World->Prop} (h:xh p0 p1 w R):Calls Tryz.prog 27 #[p0,p1] w R:=
  aK (.seq none .leaf (.seq none (.seq none .leaf (.one (.loop [5] .leaf))) .leaf)) [p0,p1] be Tryz.func27 (by kernel_rfl) (by kernel_rfl) h


/- loop.example/prologserver/impl.ModelClosed : function 29 -/
def l0 (p0 p1:Value) (w:World) (R:Ending->World->Prop):Prop:=
 RR (sOp (.box 23 (.const p1)) 0) w fun a b=>
 (∃ c:Value->World->Prop,(
 RR (aH (.func (.func 15) #[] #[]) [p0]) b fun b d=>
 RR (sOp (.unOp .not 4 (.const b)) 4) d fun b d=>
 ((fun c:VW=>aj b false (
 RR (sOp (.load 23 (.const a)) 23) d fun a d=>
 RR (ar .len #[23] 3 [false] [a]) d fun a d=>
 RR (aq .gtr 3 false true a (.int .i64 60)) d fun a d=>
 RR (sOp (.pick (.const b) (.const (.bool true)) (.const a)) 4) d fun a b=>c a b) (
 RR (sOp (.pick (.const b) (.const (.bool true)) (.const undef)) 4) d fun a b=>c a b)) fun b d=>
 aj b false (
 RR (sOp (.load 23 (.const a)) 23) d fun a d=>
 RR (aH (.func (.func 57) #[] #[]) [a,(.func (.func 64) #[] #[])]) d fun a d=>
 RR (sOp (.pick (.const b) (.const (.bool true)) (.const a)) 4) d fun a b=>
 c a b) (
 RR (sOp (.pick (.const b) (.const (.bool true)) (.const undef)) 4) d fun a b=>
 c a b)))/\
 ∀ b _ _ _ _ _ _ _ _ _ _ _:Value,∀ d:World,c b d->
 CondV b (
 R (.returned (.bool false)) d) (
 RR (sOp (.alloc 4) 0) d fun b c=>
 RR (sOp (.store 4 (.const b) (.const (.bool true))) 0) c fun _ c=>
 RR (ar .len #[32] 3 [false] [p0]) c fun c d=>
 (∃ (e:Value->World->Prop) (f:Value->World->Nat),e (.int .i64 0) d/\
 ∀ d _ _ _ _ _ _ _ _ _ _:Value,∀ g:World,e d g->
 RR (aq .lss 3 false false d c) g fun c h=>
 CondV c (
 RR (sOp (.indexAddr 32 (.const p0) (.const d)) 0) h fun c h=>
 RR (sOp (.load 39 (.const c)) 39) h fun c h=>
 RR (sOp (.alloc 39) 0) h fun h i=>
 RR (sOp (.store 39 (.const h) (.const c)) 0) i fun _ c=>
 RR (sOp (.load 39 (.const h)) 39) c fun c h=>
 RR (sOp (.load 23 (.const a)) 23) h fun h i=>
 RR (sOp (.makeMap 59 none) 59) i fun i j=>
 RR (fU (.func 67) [] [b,a]) j fun a b=>
 RR (aH (.func (.func 66) #[] #[]) [c,(.int .i64 0),h,i,a]) b fun _ a=>
 RR (aq .add 3 false true d (.int .i64 1)) a fun a b=>
 e a b/\f a b<f d g) (
 RR (sOp (.load 4 (.const b)) 4) h fun a b=>
 R (.returned a) b))))
theorem pV {p0 p1:Value} {w:World} {R:Ending->World->Prop} (h:l0 p0 p1 w R):Calls Tryz.prog 29 #[p0,p1] w R:=
  aK (.seq none .leaf (.seq none (.seq (some [19]) .leaf .leaf) (.seq none .leaf (.seq none (.seq none .leaf (.one (.loop [22] .leaf))) .leaf)))) [p0,p1] be Tryz.func29 (by kernel_rfl) (by kernel_rfl) h


/- loop.example/prologserver/spec.DrawModelClosed : function 30 -/
def iU (p0:Value) (w:World) (R:Ending->World->Prop):Prop:=
 RR (aH (.func (.func 32) #[] #[]) [p0]) w fun a b=>
 RR (aH (.func (.func 33) #[] #[]) [a]) b fun b c=>
 (∃ d:Value->World->Prop,(
 RR (aH (.func (.func 69) #[] #[]) [a,(.int .i64 4)]) c fun c e=>
 RR (aq .eql 3 false true c (.int .i64 0)) e fun c e=>
 CondV c (
 RR (aH (.func (.func 60) #[] #[]) [a,b]) e fun a b=>
 d a b) (
 d b e))/\
 ∀ b _ _ _ _ _ _:Value,∀ c:World,d b c->
 RR (aS 71 5 [(0,(.int .i64 200)),(1,(.int .i64 3)),(2,(.int .i64 200)),(3,(.int .i64 2)),(4,(.int .i64 1))]) c fun c d=>
 RR (aH (.func (.func 61) #[] #[]) [a,c]) d fun c d=>
 RR (aH (.func (.func 26) #[] #[]) [b,c]) d fun c d=>
 RR (sOp (.extract (.const c) 0) 23) d fun d e=>
 RR (sOp (.extract (.const c) 1) 4) e fun _ c=>
 (∃ e:World->Prop,(
 (∃ b:Value->World->Prop,(
 RR (ar .len #[23] 3 [false] [d]) c fun c d=>
 RR (aq .gtr 3 false true c (.int .i64 0)) d fun c d=>
 aj c true (
 RR (aH (.func (.func 69) #[] #[]) [a,(.int .i64 4)]) d fun a d=>
 RR (aq .eql 3 false true a (.int .i64 0)) d fun a d=>
 RR (sOp (.pick (.const c) (.const a) (.const (.bool false))) 4) d fun a c=>
 b a c) (
 RR (sOp (.pick (.const c) (.const undef) (.const (.bool false))) 4) d fun a c=>
 b a c))/\
 ∀ c _ _ _ _ _ _ _:Value,∀ f:World,b c f->
 CondV c (
 RR (aH (.func (.func 35) #[] #[]) [a]) f fun b c=>
 RR (aH (.func (.func 34) #[] #[]) [a,b]) c fun a b=>
 RR (sOp (.indexAddr 23 (.const d) (.const (.int .i64 0))) 0) b fun b c=>
 RR (sOp (.store 25 (.const b) (.const a)) 0) c fun _ a=>
 e a) (
 e f)))/\
 ∀ _ _ _ _ _ _ _ _ _ _ _ _ _ _:Value,∀ a:World,e a->
 R (.returned (.tuple #[b,d])) a))
theorem ma {p0:Value} {w:World} {R:Ending->World->Prop} (h:iU p0 w R):Calls Tryz.prog 30 #[p0] w R:=
  aK (.seq none .leaf (.seq none .leaf (.seq none .leaf (.seq (some [5]) .leaf (.seq none .leaf (.seq (some []) (.seq (some [33]) .leaf .leaf) .leaf)))))) [p0] be Tryz.func30 (by kernel_rfl) (by kernel_rfl) h


/- loop.example/prologserver/spec.ModelClosed : function 31 -/
def mh (p0 p1:Value) (w:World) (R:Ending->World->Prop):Prop:=
 (∃ a:Value->World->Prop,(
 RR (aH (.func (.func 18) #[] #[]) [p0]) w fun b c=>
 RR (sOp (.unOp .not 4 (.const b)) 4) c fun b c=>
 aj b false (
 RR (aH (.func (.func 70) #[] #[]) [p1]) c fun c d=>
 RR (sOp (.unOp .not 4 (.const c)) 4) d fun c d=>
 RR (sOp (.pick (.const b) (.const (.bool true)) (.const c)) 4) d fun b c=>
 a b c) (
 RR (sOp (.pick (.const b) (.const (.bool true)) (.const undef)) 4) c fun b c=>
 a b c))/\
 ∀ b _ _ _ _ _ _ _:Value,∀ c:World,a b c->
 CondV b (
 R (.returned (.bool false)) c) (
 (∃ (a:Value->World->Prop) (b:Value->World->Nat),a (.int .i64 0) c/\
 ∀ c _ _ _ _ _ _ _ _ _ _ _ _ _ _ _ _ _ d e f g h i j k l _ _ _ _:Value,∀ m:World,a c m->
 RR (ar .len #[32] 3 [false] [p0]) m fun n o=>
 RR (aq .lss 3 false false c n) o fun n o=>
 CondV n (
 (∃ n:(Nat->Bool)->Value->Value->Value->Value->Value->Value->Value->Value->Value->World->Prop,n (fun _=>false) d e f g h i j k l { o with drawn:=o.drawn+1 }/\(
 (∀ a:Nat->Bool,a 0=false->∀ b c d e f g h i j k,n a b c d e f g h i j k->
 RR (aS 23 0 []) k fun j k=>
 n (ay a 0) b c d e f g h i j k)/\
 (∀ a:Nat->Bool,a 1=false->∀ b c d e f g h i j k,n a b c d e f g h i j k->
 n (ay a 1) b c d e f g h p0 j k)/\
 (∀ a:Nat->Bool,a 2=false->∀ b d e f g h i j k l,n a b d e f g h i j k l->
 n (ay a 2) b d e f g h c j k l)/\
 (∀ a:Nat->Bool,a 3=false->a 1=true->a 2=true->∀ b c d e f g h i j k,n a b c d e f g h i j k->
 RR (sOp (.indexAddr 32 (.const i) (.const h)) 0) k fun g k=>
 n (ay a 3) b c d e f g h i j k)/\
 (∀ a:Nat->Bool,a 4=false->a 3=true->∀ b c d e f g h i j k,n a b c d e f g h i j k->
 RR (sOp (.load 39 (.const g)) 39) k fun f k=>
 n (ay a 4) b c d e f g h i j k)/\
 (∀ a:Nat->Bool,a 5=false->∀ b c d e f g h i j k,n a b c d e f g h i j k->
 n (ay a 5) b c d p1 f g h i j k)/\
 (∀ a:Nat->Bool,a 6=false->∀ b c d e f g h i j k,n a b c d e f g h i j k->
 RR (sOp (.makeSlice 23 (.const (.int .i64 26)) (.const (.int .i64 26))) 23) k fun d k=>
 n (ay a 6) b c d e f g h i j k)/\
 (∀ a:Nat->Bool,a 7=false->a 0=true->a 4=true->a 5=true->a 6=true->∀ b c d e f g h i j k,n a b c d e f g h i j k->
 RR (aH (.func (.func 71) #[] #[]) [j,f,(.int .i64 0),e,d]) k fun c k=>
 n (ay a 7) b c d e f g h i j k)/\
 (∀ a:Nat->Bool,a 8=false->a 7=true->a 7=true->a 0=true->a 1=true->a 2=true->a 3=true->a 4=true->a 5=true->a 6=true->a 7=true->∀ b c d e f g h i j k,n a b c d e f g h i j k->
 n (ay a 8) c c d e f g h i j k)/\
 True)/\
 ∀ d:Nat->Bool,d 8=true->d 7=true->d 6=true->d 5=true->d 4=true->d 3=true->d 2=true->d 1=true->d 0=true->∀ e f g h i j k l o p,n d e f g h i j k l o p->
 (∃ (d:Value->World->Prop) (f:Value->World->Nat),d (.int .i64 0) p/\
 ∀ g _ _ _ _ _ _ _ _ _ _ _ _ _ _:Value,∀ h:World,d g h->
 RR (ar .len #[23] 3 [false] [e]) h fun i j=>
 RR (aq .lss 3 false false g i) j fun i j=>
 CondV i (
 RR (sOp (.indexAddr 23 (.const e) (.const g)) 0) j fun a b=>
 RR (sOp (.load 25 (.const a)) 25) b fun a b=>
 RR (aH (.func (.func 72) #[] #[]) [p1,a]) b fun a b=>
 RR (sOp (.unOp .not 4 (.const a)) 4) b fun a b=>
 CondV a (
 R (.returned (.bool false)) b) (
 RR (aq .add 3 false true g (.int .i64 1)) b fun a b=>
 d a b/\f a b<f g h)) (
 RR (aq .add 3 false true c (.int .i64 1)) j fun d e=>
 a d e/\b d e<b c m)))) (
 R (.returned (.bool true)) o))))
theorem pW {p0 p1:Value} {w:World} {R:Ending->World->Prop} (h:mh p0 p1 w R):Calls Tryz.prog 31 #[p0,p1] w R:=
  aK (.seq none .leaf (.seq none (.seq (some [15]) .leaf .leaf) (.seq none (.seq none .leaf (.one (.loop [5] (.seq none .leaf (.seq none (.one (.seq none .leaf (.seq none .leaf (.one (.loop [7] .leaf))))) .leaf))))) .leaf))) [p0,p1] be Tryz.func31 (by kernel_rfl) (by kernel_rfl) h


/- loop.example/prologserver/spec.l18Open : function 32 -/
def sS (p0:Value) (w:World) (R:Ending->World->Prop):Prop:=
 (∃ a:Value->World->Prop,(
 RR (ar .len #[22] 3 [false] [p0]) w fun b c=>
 RR (aq .gtr 3 false true b (.int .i64 2000)) c fun b c=>
 CondV b (
 RR (sOp (.slice 22 (.const p0) none (some (.const (.int .i64 2000))) none) 22) c fun b c=>
 a b c) (
 a p0 c))/\
 ∀ b _ _ _ _ _:Value,∀ c:World,a b c->
 RR (dy 78 [(0,b)]) c fun a b=>
 RR (sOp (.box 78 (.const a)) 49) b fun a b=>
 R (.returned a) b)
theorem xF {p0:Value} {w:World} {R:Ending->World->Prop} (h:sS p0 w R):Calls Tryz.prog 32 #[p0] w R:=
  aK (.seq none .leaf (.seq (some [0]) .leaf .leaf)) [p0] be Tryz.func32 (by kernel_rfl) (by kernel_rfl) h


/- loop.example/prologserver/spec.l16Program : function 33 -/
def mY (p0:Value) (w:World) (R:Ending->World->Prop):Prop:=
 RR (aH (.func (.func 73) #[] #[]) []) w fun a b=>
 RR (ar .len #[67] 3 [false] [a]) b fun b c=>
 RR (aH (.func (.func 69) #[] #[]) [p0,b]) c fun b c=>
 RR (sOp (.indexAddr 67 (.const a) (.const b)) 0) c fun a b=>
 RR (sOp (.load 9 (.const a)) 9) b fun a b=>
 RR (aH (.func (.func 74) #[] #[]) [a]) b fun a b=>
 RR (sOp (.extract (.const a) 0) 32) b fun b c=>
 RR (sOp (.extract (.const a) 1) 4) c fun _ a=>
 (∃ c:Value->World->Prop,(
 RR (aH (.func (.func 69) #[] #[]) [p0,(.int .i64 8)]) a fun a d=>
 RR (aq .eql 3 false true a (.int .i64 0)) d fun a d=>
 CondV a (
 RR (aH (.func (.func 75) #[] #[]) [p0]) d fun a b=>
 c a b) (
 c b d))/\
 ∀ a _ _ _ _ _:Value,∀ b:World,c a b->
 R (.returned a) b)
theorem qT {p0:Value} {w:World} {R:Ending->World->Prop} (h:mY p0 w R):Calls Tryz.prog 33 #[p0] w R:=
  aK (.seq none .leaf (.seq none .leaf (.seq none .leaf (.seq (some [4]) .leaf .leaf)))) [p0] be Tryz.func33 (by kernel_rfl) (by kernel_rfl) h


/- loop.example/prologserver/spec.l1Mutate : function 34 -/
def qu (p0 p1:Value) (w:World) (R:Ending->World->Prop):Prop:=
 RR (sOp (.box 25 (.const p1)) 0) w fun a b=>
 RR (sOp (.alloc 25) 0) b fun b c=>
 RR (sOp (.load 25 (.const a)) 25) c fun a c=>
 RR (aH (.func (.func 42) #[] #[]) [a]) c fun a c=>
 RR (sOp (.alloc 25) 0) c fun c d=>
 RR (sOp (.store 25 (.const c) (.const a)) 0) d fun _ a=>
 (∃ d:World->Prop,(
 RR (aH (.func (.func 69) #[] #[]) [p0,(.int .i64 50)]) a fun a b=>
 RR (aq .eql 3 false true a (.int .i64 0)) b fun b e=>
 CondV b (
 RR (aS 71 5 [(0,(.int .i64 0)),(1,(.int .i64 4)),(2,(.int .i64 1)),(3,(.int .i64 2)),(4,(.int .i64 3))]) e fun a b=>
 RR (aH (.func (.func 61) #[] #[]) [p0,a]) b fun a b=>
 RR (sOp (.fieldAddr 25 (.const c) 0) 0) b fun b c=>
 RR (sOp (.store 3 (.const b) (.const a)) 0) c fun _ a=>
 d a) (
 RR (aq .eql 3 false true a (.int .i64 1)) e fun b e=>
 CondV b (
 RR (aS 71 5 [(0,(.int .i64 26)),(1,(.int .i64 1000)),(2,(.int .i64 (-1000))),(3,(.int .i64 (-1))),(4,(.int .i64 1))]) e fun a b=>
 RR (aH (.func (.func 61) #[] #[]) [p0,a]) b fun a b=>
 RR (sOp (.fieldAddr 25 (.const c) 1) 0) b fun b c=>
 RR (sOp (.store 3 (.const b) (.const a)) 0) c fun _ a=>
 d a) (
 RR (aq .eql 3 false true a (.int .i64 2)) e fun b e=>
 CondV b (
 RR (aS 67 5 [(0,(.string ⟨#[]⟩)),(1,(.string ⟨#[88]⟩)),(2,(.string ⟨#[116,111,111,108,111,110,103]⟩)),(3,(.string ⟨#[195,169]⟩)),(4,(.string ⟨#[97]⟩))]) e fun a b=>
 RR (aH (.func (.func 76) #[] #[]) [p0,a]) b fun a b=>
 RR (sOp (.fieldAddr 25 (.const c) 2) 0) b fun b c=>
 RR (sOp (.store 9 (.const b) (.const a)) 0) c fun _ a=>
 d a) (
 RR (aq .eql 3 false true a (.int .i64 3)) e fun b e=>
 CondV b (
 (∃ (a:World->Prop) (b:World->Nat),a e/\
 ∀ e f g h i j _ _ _ _:Value,∀ k:World,a k->
 RR (sOp (.fieldAddr 25 (.const c) 3) 0) k fun l m=>
 RR (sOp (.load 23 (.const l)) 23) m fun l m=>
 RR (ar .len #[23] 3 [false] [l]) m fun l m=>
 RR (aq .leq 3 false true l (.int .i64 4)) m fun l m=>
 CondV l (
 (∃ d:(Nat->Bool)->Value->Value->Value->Value->Value->Value->World->Prop,d (fun _=>false) e f g h i j { m with drawn:=m.drawn+1 }/\(
 (∀ a:Nat->Bool,a 0=false->∀ b e f g h i j,d a b e f g h i j->
 RR (sOp (.fieldAddr 25 (.const c) 3) 0) j fun c i=>
 d (ay a 0) b e f g h c i)/\
 (∀ a:Nat->Bool,a 1=false->a 0=true->∀ b c e f g h i,d a b c e f g h i->
 RR (sOp (.load 23 (.const h)) 23) i fun g i=>
 d (ay a 1) b c e f g h i)/\
 (∀ a:Nat->Bool,a 2=false->∀ b c e f g h i,d a b c e f g h i->
 RR (aH (.func (.func 77) #[] #[]) [(.int .i64 1)]) i fun f i=>
 d (ay a 2) b c e f g h i)/\
 (∀ a:Nat->Bool,a 3=false->a 2=true->∀ b c e f g h i,d a b c e f g h i->
 RR (aS 23 1 [(0,f)]) i fun e i=>
 d (ay a 3) b c e f g h i)/\
 (∀ a:Nat->Bool,a 4=false->a 1=true->a 3=true->a 2=true->∀ b c e f g h i,d a b c e f g h i->
 RR (ar .append #[23,23] 23 [false,false] [g,e]) i fun c i=>
 d (ay a 4) b c e f g h i)/\
 (∀ a:Nat->Bool,a 5=false->a 0=true->a 1=true->a 2=true->a 3=true->a 4=true->∀ b e f g h i j,d a b e f g h i j->
 RR (sOp (.fieldAddr 25 (.const c) 3) 0) j fun b c=>
 d (ay a 5) b e f g h i c)/\
 (∀ a:Nat->Bool,a 6=false->a 5=true->a 4=true->a 4=true->a 0=true->a 1=true->a 2=true->a 3=true->a 4=true->∀ b c e f g h i,d a b c e f g h i->
 RR (sOp (.store 23 (.const b) (.const c)) 0) i fun _ i=>
 d (ay a 6) b c e f g h i)/\
 True)/\
 ∀ c:Nat->Bool,c 6=true->c 5=true->c 4=true->c 3=true->c 2=true->c 1=true->c 0=true->∀ e f g h i j l,d c e f g h i j l->
 a l/\b l<b k)) (
 d m))) (
 RR (aq .eql 3 false true a (.int .i64 4)) e fun a b=>
 CondV a (
 (∃ (a:Value->World->Prop) (e:Value->World->Nat),a (.int .i64 0) b/\
 ∀ b _ _ _ _ _ _ _:Value,∀ f:World,a b f->
 RR (aq .lss 3 false true b (.int .i64 30)) f fun g h=>
 CondV g (
 RR (sOp (.load 25 (.const c)) 25) h fun d g=>
 RR (aS 23 1 [(0,d)]) g fun d g=>
 RR (aH (.func (.func 78) #[] #[]) [(.string ⟨#[115]⟩),d]) g fun d g=>
 RR (sOp (.store 25 (.const c) (.const d)) 0) g fun _ c=>
 RR (aq .add 3 false true b (.int .i64 1)) c fun c d=>
 a c d/\e c d<e b f) (
 d h))) (
 d b))))))/\
 ∀ _ _ _ _ _ _ _ _ _ _ _ _ _ _ _ _ _ _ _ _ _ _ _ _ _ _ _ _ _ _ _ _ _ _ _ _ _ _ _ _ _ _:Value,∀ a:World,d a->
 RR (sOp (.load 25 (.const c)) 25) a fun a c=>
 RR (sOp (.store 25 (.const b) (.const a)) 0) c fun _ a=>
 (bd Tryz.prog 25 b a fun b=>R (.returned b) a))
theorem uM {p0 p1:Value} {w:World} {R:Ending->World->Prop} (h:qu p0 p1 w R):Calls Tryz.prog 34 #[p0,p1] w R:=
  aK (.seq none .leaf (.seq none .leaf (.seq (some []) (.seq none .leaf (.one (.seq none .leaf (.two .leaf (.seq none .leaf (.two .leaf (.seq none .leaf (.two .leaf (.seq none .leaf (.two (.one (.loop [] .leaf)) (.seq none .leaf (.two (.seq none .leaf (.one (.loop [6] .leaf))) .leaf)))))))))))) .leaf))) [p0,p1] be Tryz.func34 (by kernel_rfl) (by kernel_rfl) h


/- loop.example/prologserver/spec.l16Goal : function 35 -/
def tr (p0:Value) (w:World) (R:Ending->World->Prop):Prop:=
 RR (sOp (.alloc 25) 0) w fun a b=>
 RR (aH (.func (.func 79) #[] #[]) []) b fun b c=>
 RR (ar .len #[67] 3 [false] [b]) c fun c d=>
 RR (aH (.func (.func 69) #[] #[]) [p0,c]) d fun c d=>
 RR (sOp (.indexAddr 67 (.const b) (.const c)) 0) d fun b c=>
 RR (sOp (.load 9 (.const b)) 9) c fun b c=>
 RR (aH (.func (.func 80) #[] #[]) [b]) c fun b c=>
 RR (sOp (.extract (.const b) 0) 25) c fun c d=>
 RR (sOp (.extract (.const b) 1) 4) d fun _ b=>
 RR (sOp (.alloc 25) 0) b fun b d=>
 RR (sOp (.store 25 (.const b) (.const c)) 0) d fun _ c=>
 RR (sOp (.load 25 (.const b)) 25) c fun b c=>
 RR (sOp (.store 25 (.const a) (.const b)) 0) c fun _ b=>
 (bd Tryz.prog 25 a b fun a=>R (.returned a) b)
theorem xw {p0:Value} {w:World} {R:Ending->World->Prop} (h:tr p0 w R):Calls Tryz.prog 35 #[p0] w R:=
  aK .leaf [p0] be Tryz.func35 (by kernel_rfl) (by kernel_rfl) h


/- loop.example/prologserver/impl.ownList : function 36 -/
def tU (p0:Value) (w:World) (R:Ending->World->Prop):Prop:=
 RR (ar .len #[23] 3 [false] [p0]) w fun a b=>
 (∃ (c:Value->Value->World->Prop) (d:Value->Value->World->Nat),c (.int .i64 0) (Value.slice none 0 0) b/\
 ∀ b _ e _ _ _ _ _ _ _ _ _:Value,∀ f:World,c b e f->
 RR (aq .lss 3 false false b a) f fun a g=>
 CondV a (
 RR (sOp (.indexAddr 23 (.const p0) (.const b)) 0) g fun a g=>
 RR (sOp (.load 25 (.const a)) 25) g fun a g=>
 RR (sOp (.alloc 25) 0) g fun g h=>
 RR (sOp (.store 25 (.const g) (.const a)) 0) h fun _ a=>
 RR (sOp (.load 25 (.const g)) 25) a fun a g=>
 RR (aH (.func (.func 81) #[] #[]) [a]) g fun a g=>
 RR (aS 23 1 [(0,a)]) g fun a g=>
 RR (ar .append #[23,23] 23 [false,false] [e,a]) g fun a g=>
 RR (aq .add 3 false true b (.int .i64 1)) g fun g h=>
 c g a h/\d g a h<d b e f) (
 R (.returned e) g))
theorem yt {p0:Value} {w:World} {R:Ending->World->Prop} (h:tU p0 w R):Calls Tryz.prog 36 #[p0] w R:=
  aK (.seq none .leaf (.seq none .leaf (.seq none (.seq none .leaf (.one (.loop [8,3] .leaf))) .leaf))) [p0] be Tryz.func36 (by kernel_rfl) (by kernel_rfl) h


/- slices.Clone[[]loop.example/prologserver/impl.Term,loop.example/prologserver/impl.Term] : function 38 -/
def m9 (p0:Value) (w:World) (R:Ending->World->Prop):Prop:=
 RR (aq .eql 23 false true p0 (Value.slice none 0 0)) w fun a b=>
 CondV a (
 R (.returned (Value.slice none 0 0)) b) (
 RR (aS 23 0 []) b fun a b=>
 RR (ar .append #[23,23] 23 [false,false] [a,p0]) b fun a b=>
 R (.returned a) b)
theorem rE {p0:Value} {w:World} {R:Ending->World->Prop} (h:m9 p0 w R):Calls Tryz.prog 38 #[p0] w R:=
  aK .leaf [p0] be Tryz.func38 (by kernel_rfl) (by kernel_rfl) h


/- loop.example/prologserver/impl.TermSame : function 40 -/
def qB (p0 p1:Value) (w:World) (R:Ending->World->Prop):Prop:=
 RR (sOp (.box 25 (.const p0)) 0) w fun a b=>
 RR (sOp (.box 25 (.const p1)) 0) b fun b c=>
 RR (sOp (.fieldAddr 25 (.const a) 0) 0) c fun c d=>
 RR (sOp (.load 3 (.const c)) 3) d fun c d=>
 RR (sOp (.fieldAddr 25 (.const b) 0) 0) d fun d e=>
 RR (sOp (.load 3 (.const d)) 3) e fun d e=>
 RR (aq .eql 3 false false c d) e fun c d=>
 ((fun e:VW=>aj c true (
 RR (sOp (.fieldAddr 25 (.const a) 1) 0) d fun a d=>
 RR (sOp (.load 3 (.const a)) 3) d fun a d=>
 RR (sOp (.fieldAddr 25 (.const b) 1) 0) d fun b d=>
 RR (sOp (.load 3 (.const b)) 3) d fun b d=>
 RR (aq .eql 3 false false a b) d fun a b=>
 RR (sOp (.pick (.const c) (.const a) (.const (.bool false))) 4) b fun a b=>e a b) (
 RR (sOp (.pick (.const c) (.const undef) (.const (.bool false))) 4) d fun a b=>e a b)) fun c d=>
 ((fun e:VW=>aj c true (
 RR (sOp (.fieldAddr 25 (.const a) 2) 0) d fun a d=>
 RR (sOp (.load 9 (.const a)) 9) d fun a d=>
 RR (sOp (.fieldAddr 25 (.const b) 2) 0) d fun b d=>
 RR (sOp (.load 9 (.const b)) 9) d fun b d=>
 RR (aq .eql 9 false false a b) d fun a b=>
 RR (sOp (.pick (.const c) (.const a) (.const (.bool false))) 4) b fun a b=>e a b) (
 RR (sOp (.pick (.const c) (.const undef) (.const (.bool false))) 4) d fun a b=>e a b)) fun c d=>
 aj c true (
 RR (sOp (.fieldAddr 25 (.const a) 3) 0) d fun a d=>
 RR (sOp (.load 23 (.const a)) 23) d fun a d=>
 RR (sOp (.fieldAddr 25 (.const b) 3) 0) d fun b d=>
 RR (sOp (.load 23 (.const b)) 23) d fun b d=>
 RR (aH (.func (.func 83) #[] #[]) [a,b,(.func (.func 40) #[] #[])]) d fun a b=>
 RR (sOp (.pick (.const c) (.const a) (.const (.bool false))) 4) b fun a b=>
 R (.returned a) b) (
 RR (sOp (.pick (.const c) (.const undef) (.const (.bool false))) 4) d fun a b=>
 R (.returned a) b)))
theorem vJ {p0 p1:Value} {w:World} {R:Ending->World->Prop} (h:qB p0 p1 w R):Calls Tryz.prog 40 #[p0,p1] w R:=
  aK .leaf [p0,p1] be Tryz.func40 (by kernel_rfl) (by kernel_rfl) h


/- loop.example/prologserver/spec.l1Copy : function 42 -/
def o8 (p0:Value) (w:World) (R:Ending->World->Prop):Prop:=
 RR (sOp (.box 25 (.const p0)) 0) w fun a b=>
 RR (sOp (.alloc 25) 0) b fun b c=>
 RR (sOp (.fieldAddr 25 (.const a) 0) 0) c fun c d=>
 RR (sOp (.load 3 (.const c)) 3) d fun c d=>
 RR (sOp (.fieldAddr 25 (.const a) 1) 0) d fun d e=>
 RR (sOp (.load 3 (.const d)) 3) e fun d e=>
 RR (sOp (.fieldAddr 25 (.const a) 2) 0) e fun e f=>
 RR (sOp (.load 9 (.const e)) 9) f fun e f=>
 RR (dy 25 [(0,c),(1,d),(2,e)]) f fun c d=>
 RR (sOp (.alloc 25) 0) d fun d e=>
 RR (sOp (.store 25 (.const d) (.const c)) 0) e fun _ c=>
 (∃ (e:Value->World->Prop) (f:Value->World->Nat),e (.int .i64 0) c/\
 ∀ c _ _ g h i j k l m n o p q _ _ _ _ _:Value,∀ r:World,e c r->
 RR (sOp (.fieldAddr 25 (.const a) 3) 0) r fun s t=>
 RR (sOp (.load 23 (.const s)) 23) t fun s t=>
 RR (ar .len #[23] 3 [false] [s]) t fun s t=>
 RR (aq .lss 3 false false c s) t fun s t=>
 CondV s (
 (∃ b:(Nat->Bool)->Value->Value->Value->Value->Value->Value->Value->Value->Value->Value->Value->World->Prop,b (fun _=>false) g h i j k l m n o p q { t with drawn:=t.drawn+1 }/\(
 (∀ a:Nat->Bool,a 0=false->∀ c e f g h i j k l m n o,b a c e f g h i j k l m n o->
 RR (sOp (.fieldAddr 25 (.const d) 3) 0) o fun d n=>
 b (ay a 0) c e f g h i j k l m d n)/\
 (∀ a:Nat->Bool,a 1=false->a 0=true->∀ c d e f g h i j k l m n,b a c d e f g h i j k l m n->
 RR (sOp (.load 23 (.const m)) 23) n fun l n=>
 b (ay a 1) c d e f g h i j k l m n)/\
 (∀ c:Nat->Bool,c 2=false->∀ d e f g h i j k l m n o,b c d e f g h i j k l m n o->
 RR (sOp (.fieldAddr 25 (.const a) 3) 0) o fun a l=>
 b (ay c 2) d e f g h i j k a m n l)/\
 (∀ a:Nat->Bool,a 3=false->a 2=true->∀ c d e f g h i j k l m n,b a c d e f g h i j k l m n->
 RR (sOp (.load 23 (.const k)) 23) n fun j n=>
 b (ay a 3) c d e f g h i j k l m n)/\
 (∀ a:Nat->Bool,a 4=false->∀ d e f g h i j k l m n o,b a d e f g h i j k l m n o->
 b (ay a 4) d e f g h i c k l m n o)/\
 (∀ a:Nat->Bool,a 5=false->a 3=true->a 4=true->∀ c d e f g h i j k l m n,b a c d e f g h i j k l m n->
 RR (sOp (.indexAddr 23 (.const j) (.const i)) 0) n fun h n=>
 b (ay a 5) c d e f g h i j k l m n)/\
 (∀ a:Nat->Bool,a 6=false->a 5=true->∀ c d e f g h i j k l m n,b a c d e f g h i j k l m n->
 RR (sOp (.load 25 (.const h)) 25) n fun g n=>
 b (ay a 6) c d e f g h i j k l m n)/\
 (∀ a:Nat->Bool,a 7=false->a 6=true->∀ c d e f g h i j k l m n,b a c d e f g h i j k l m n->
 RR (aH (.func (.func 42) #[] #[]) [g]) n fun f n=>
 b (ay a 7) c d e f g h i j k l m n)/\
 (∀ a:Nat->Bool,a 8=false->a 7=true->∀ c d e f g h i j k l m n,b a c d e f g h i j k l m n->
 RR (aS 23 1 [(0,f)]) n fun e n=>
 b (ay a 8) c d e f g h i j k l m n)/\
 (∀ a:Nat->Bool,a 9=false->a 1=true->a 8=true->a 7=true->∀ c d e f g h i j k l m n,b a c d e f g h i j k l m n->
 RR (ar .append #[23,23] 23 [false,false] [l,e]) n fun d n=>
 b (ay a 9) c d e f g h i j k l m n)/\
 (∀ a:Nat->Bool,a 10=false->a 0=true->a 1=true->a 2=true->a 3=true->a 4=true->a 5=true->a 6=true->a 7=true->a 8=true->a 9=true->∀ c e f g h i j k l m n o,b a c e f g h i j k l m n o->
 RR (sOp (.fieldAddr 25 (.const d) 3) 0) o fun c d=>
 b (ay a 10) c e f g h i j k l m n d)/\
 (∀ a:Nat->Bool,a 11=false->a 10=true->a 9=true->a 9=true->a 0=true->a 1=true->a 2=true->a 3=true->a 4=true->a 5=true->a 6=true->a 7=true->a 8=true->a 9=true->∀ c d e f g h i j k l m n,b a c d e f g h i j k l m n->
 RR (sOp (.store 23 (.const c) (.const d)) 0) n fun _ n=>
 b (ay a 11) c d e f g h i j k l m n)/\
 True)/\
 ∀ a:Nat->Bool,a 11=true->a 10=true->a 9=true->a 8=true->a 7=true->a 6=true->a 5=true->a 4=true->a 3=true->a 2=true->a 1=true->a 0=true->∀ d g h i j k l m n o p q,b a d g h i j k l m n o p q->
 RR (aq .add 3 false true c (.int .i64 1)) q fun a b=>
 e a b/\f a b<f c r)) (
 RR (sOp (.load 25 (.const d)) 25) t fun a c=>
 RR (sOp (.store 25 (.const b) (.const a)) 0) c fun _ a=>
 (bd Tryz.prog 25 b a fun b=>R (.returned b) a)))
theorem oh {p0:Value} {w:World} {R:Ending->World->Prop} (h:o8 p0 w R):Calls Tryz.prog 42 #[p0] w R:=
  aK (.seq none .leaf (.seq none .leaf (.seq none (.seq none .leaf (.one (.loop [4] .leaf))) .leaf))) [p0] be Tryz.func42 (by kernel_rfl) (by kernel_rfl) h


/- loop.example/prologserver/impl.TermValid : function 43 -/
def oe (p0:Value) (w:World) (R:Ending->World->Prop):Prop:=
 RR (sOp (.box 25 (.const p0)) 0) w fun a b=>
 RR (sOp (.alloc 3) 0) b fun b c=>
 RR (sOp (.store 3 (.const b) (.const (.int .i64 0))) 0) c fun _ c=>
 RR (sOp (.load 25 (.const a)) 25) c fun a c=>
 RR (aH (.func (.func 86) #[] #[]) [a,(.int .i64 1),b]) c fun a b=>
 R (.returned a) b
theorem rP {p0:Value} {w:World} {R:Ending->World->Prop} (h:oe p0 w R):Calls Tryz.prog 43 #[p0] w R:=
  aK .leaf [p0] be Tryz.func43 (by kernel_rfl) (by kernel_rfl) h


/- loop.example/prologserver/impl.instance : function 44 -/
def qE (p0 p1 p2:Value) (w:World) (R:Ending->World->Prop):Prop:=
 RR (sOp (.box 25 (.const p0)) 0) w fun a b=>
 RR (sOp (.box 25 (.const p1)) 0) b fun b c=>
 RR (sOp (.fieldAddr 25 (.const b) 0) 0) c fun c d=>
 RR (sOp (.load 3 (.const c)) 3) d fun c d=>
 RR (aq .eql 3 false true c (.int .i64 1)) d fun c d=>
 CondV c (
 RR (sOp (.fieldAddr 25 (.const b) 1) 0) d fun c d=>
 RR (sOp (.load 3 (.const c)) 3) d fun c d=>
 RR (sOp (.lookup 59 (.const p2) (.const c) true) 85) d fun c d=>
 RR (sOp (.extract (.const c) 0) 25) d fun d e=>
 RR (sOp (.extract (.const c) 1) 4) e fun c e=>
 RR (sOp (.alloc 25) 0) e fun e f=>
 RR (sOp (.store 25 (.const e) (.const d)) 0) f fun _ d=>
 RR (sOp (.unOp .not 4 (.const c)) 4) d fun c d=>
 CondV c (
 RR (sOp (.fieldAddr 25 (.const b) 1) 0) d fun b c=>
 RR (sOp (.load 3 (.const b)) 3) c fun b c=>
 RR (sOp (.load 25 (.const a)) 25) c fun a c=>
 RR (sOp (.mapUpdate 59 (.const p2) (.const b) (.const a)) 0) c fun _ a=>
 R (.returned (.bool true)) a) (
 RR (sOp (.load 25 (.const e)) 25) d fun b c=>
 RR (sOp (.load 25 (.const a)) 25) c fun a c=>
 RR (aH (.func (.func 40) #[] #[]) [b,a]) c fun a b=>
 R (.returned a) b)) (
 (∃ c:Value->World->Prop,(
 RR (sOp (.fieldAddr 25 (.const a) 0) 0) d fun d e=>
 RR (sOp (.load 3 (.const d)) 3) e fun d e=>
 RR (sOp (.fieldAddr 25 (.const b) 0) 0) e fun e f=>
 RR (sOp (.load 3 (.const e)) 3) f fun e f=>
 RR (aq .neq 3 false false d e) f fun d e=>
 ((fun c:VW=>aj d false (
 RR (sOp (.fieldAddr 25 (.const a) 1) 0) e fun a e=>
 RR (sOp (.load 3 (.const a)) 3) e fun a e=>
 RR (sOp (.fieldAddr 25 (.const b) 1) 0) e fun b e=>
 RR (sOp (.load 3 (.const b)) 3) e fun b e=>
 RR (aq .neq 3 false false a b) e fun a b=>
 RR (sOp (.pick (.const d) (.const (.bool true)) (.const a)) 4) b fun a b=>c a b) (
 RR (sOp (.pick (.const d) (.const (.bool true)) (.const undef)) 4) e fun a b=>c a b)) fun d e=>
 ((fun c:VW=>aj d false (
 RR (sOp (.fieldAddr 25 (.const a) 2) 0) e fun a e=>
 RR (sOp (.load 9 (.const a)) 9) e fun a e=>
 RR (sOp (.fieldAddr 25 (.const b) 2) 0) e fun b e=>
 RR (sOp (.load 9 (.const b)) 9) e fun b e=>
 RR (aq .neq 9 false false a b) e fun a b=>
 RR (sOp (.pick (.const d) (.const (.bool true)) (.const a)) 4) b fun a b=>c a b) (
 RR (sOp (.pick (.const d) (.const (.bool true)) (.const undef)) 4) e fun a b=>c a b)) fun d e=>
 aj d false (
 RR (sOp (.fieldAddr 25 (.const a) 3) 0) e fun a e=>
 RR (sOp (.load 23 (.const a)) 23) e fun a e=>
 RR (ar .len #[23] 3 [false] [a]) e fun a e=>
 RR (sOp (.fieldAddr 25 (.const b) 3) 0) e fun b e=>
 RR (sOp (.load 23 (.const b)) 23) e fun b e=>
 RR (ar .len #[23] 3 [false] [b]) e fun b e=>
 RR (aq .neq 3 false false a b) e fun a b=>
 RR (sOp (.pick (.const d) (.const (.bool true)) (.const a)) 4) b fun a b=>
 c a b) (
 RR (sOp (.pick (.const d) (.const (.bool true)) (.const undef)) 4) e fun a b=>
 c a b))))/\
 ∀ d _ _ _ _ _ _ _ _ _ _ _ _ _ _ _ _ _ _ _ _ _ _ _ _ _ _ _:Value,∀ e:World,c d e->
 CondV d (
 R (.returned (.bool false)) e) (
 RR (sOp (.fieldAddr 25 (.const b) 3) 0) e fun c d=>
 RR (sOp (.load 23 (.const c)) 23) d fun c d=>
 RR (ar .len #[23] 3 [false] [c]) d fun c d=>
 (∃ (e:Value->World->Prop) (f:Value->World->Nat),e (.int .i64 0) d/\
 ∀ d _ _ g h i j k l m n o p q r s _ _ _:Value,∀ t:World,e d t->
 RR (aq .lss 3 false false d c) t fun c u=>
 CondV c (
 (∃ c:(Nat->Bool)->Value->Value->Value->Value->Value->Value->Value->Value->Value->Value->Value->Value->Value->World->Prop,c (fun _=>false) g h i j k l m n o p q r s { u with drawn:=u.drawn+1 }/\(
 (∀ b:Nat->Bool,b 0=false->∀ d e f g h i j k l m n o p q,c b d e f g h i j k l m n o p q->
 RR (sOp (.fieldAddr 25 (.const a) 3) 0) q fun a p=>
 c (ay b 0) d e f g h i j k l m n o a p)/\
 (∀ a:Nat->Bool,a 1=false->a 0=true->∀ b d e f g h i j k l m n o p,c a b d e f g h i j k l m n o p->
 RR (sOp (.load 23 (.const o)) 23) p fun n p=>
 c (ay a 1) b d e f g h i j k l m n o p)/\
 (∀ a:Nat->Bool,a 2=false->∀ b e f g h i j k l m n o p q,c a b e f g h i j k l m n o p q->
 c (ay a 2) b e f g h i j k l m d o p q)/\
 (∀ a:Nat->Bool,a 3=false->a 1=true->a 2=true->∀ b d e f g h i j k l m n o p,c a b d e f g h i j k l m n o p->
 RR (sOp (.indexAddr 23 (.const n) (.const m)) 0) p fun l p=>
 c (ay a 3) b d e f g h i j k l m n o p)/\
 (∀ a:Nat->Bool,a 4=false->a 3=true->∀ b d e f g h i j k l m n o p,c a b d e f g h i j k l m n o p->
 RR (sOp (.load 25 (.const l)) 25) p fun k p=>
 c (ay a 4) b d e f g h i j k l m n o p)/\
 (∀ a:Nat->Bool,a 5=false->∀ d e f g h i j k l m n o p q,c a d e f g h i j k l m n o p q->
 RR (sOp (.fieldAddr 25 (.const b) 3) 0) q fun b k=>
 c (ay a 5) d e f g h i j b l m n o p k)/\
 (∀ a:Nat->Bool,a 6=false->a 5=true->∀ b d e f g h i j k l m n o p,c a b d e f g h i j k l m n o p->
 RR (sOp (.load 23 (.const j)) 23) p fun i p=>
 c (ay a 6) b d e f g h i j k l m n o p)/\
 (∀ a:Nat->Bool,a 7=false->∀ b e f g h i j k l m n o p q,c a b e f g h i j k l m n o p q->
 c (ay a 7) b e f g h d j k l m n o p q)/\
 (∀ a:Nat->Bool,a 8=false->a 6=true->a 7=true->∀ b d e f g h i j k l m n o p,c a b d e f g h i j k l m n o p->
 RR (sOp (.indexAddr 23 (.const i) (.const h)) 0) p fun g p=>
 c (ay a 8) b d e f g h i j k l m n o p)/\
 (∀ a:Nat->Bool,a 9=false->a 8=true->∀ b d e f g h i j k l m n o p,c a b d e f g h i j k l m n o p->
 RR (sOp (.load 25 (.const g)) 25) p fun f p=>
 c (ay a 9) b d e f g h i j k l m n o p)/\
 (∀ a:Nat->Bool,a 10=false->∀ b d e f g h i j k l m n o p,c a b d e f g h i j k l m n o p->
 c (ay a 10) b d p2 f g h i j k l m n o p)/\
 (∀ a:Nat->Bool,a 11=false->a 4=true->a 9=true->a 10=true->∀ b d e f g h i j k l m n o p,c a b d e f g h i j k l m n o p->
 RR (aH (.func (.func 44) #[] #[]) [k,f,e]) p fun d p=>
 c (ay a 11) b d e f g h i j k l m n o p)/\
 (∀ a:Nat->Bool,a 12=false->a 11=true->∀ b d e f g h i j k l m n o p,c a b d e f g h i j k l m n o p->
 RR (sOp (.unOp .not 4 (.const d)) 4) p fun b p=>
 c (ay a 12) b d e f g h i j k l m n o p)/\
 True)/\
 ∀ a:Nat->Bool,a 12=true->a 11=true->a 10=true->a 9=true->a 8=true->a 7=true->a 6=true->a 5=true->a 4=true->a 3=true->a 2=true->a 1=true->a 0=true->∀ b g h i j k l m n o p q r s,c a b g h i j k l m n o p q r s->
 CondV b (
 R (.returned (.bool false)) s) (
 RR (aq .add 3 false true d (.int .i64 1)) s fun a b=>
 e a b/\f a b<f d t))) (
 R (.returned (.bool true)) u)))))
theorem vH {p0 p1 p2:Value} {w:World} {R:Ending->World->Prop} (h:qE p0 p1 p2 w R):Calls Tryz.prog 44 #[p0,p1,p2] w R:=
  aK (.seq none .leaf (.seq none .leaf (.seq none (.seq (some [56]) .leaf .leaf) (.seq none (.seq none .leaf (.one (.loop [60] .leaf))) .leaf)))) [p0,p1,p2] be Tryz.func44 (by kernel_rfl) (by kernel_rfl) h


/- slices.ContainsFunc[[]loop.example/prologserver/impl.Clause,loop.example/prologserver/impl.Clause] : function 46 -/
def gD (p0 p1:Value) (w:World) (R:Ending->World->Prop):Prop:=
 RR (aH (.func (.func 87) #[] #[]) [p0,p1]) w fun a b=>
 RR (aq .geq 3 false true a (.int .i64 0)) b fun a b=>
 R (.returned a) b
theorem js {p0 p1:Value} {w:World} {R:Ending->World->Prop} (h:gD p0 p1 w R):Calls Tryz.prog 46 #[p0,p1] w R:=
  aK .leaf [p0,p1] be Tryz.func46 (by kernel_rfl) (by kernel_rfl) h


/- loop.example/prologserver/impl.FlatProgram$1 : function 47 -/
def jQ (p0:Value) (w:World) (R:Ending->World->Prop):Prop:=
 RR (sOp (.box 39 (.const p0)) 0) w fun a b=>
 RR (sOp (.load 39 (.const a)) 39) b fun a b=>
 RR (aH (.func (.func 48) #[] #[]) [a]) b fun a b=>
 RR (sOp (.unOp .not 4 (.const a)) 4) b fun a b=>
 R (.returned a) b
theorem nC {p0:Value} {w:World} {R:Ending->World->Prop} (h:jQ p0 w R):Calls Tryz.prog 47 #[p0] w R:=
  aK .leaf [p0] be Tryz.func47 (by kernel_rfl) (by kernel_rfl) h


/- loop.example/prologserver/impl.flatClause : function 48 -/
def no (p0:Value) (w:World) (R:Ending->World->Prop):Prop:=
 RR (sOp (.box 39 (.const p0)) 0) w fun a b=>
 (∃ c:Value->World->Prop,(
 RR (sOp (.fieldAddr 39 (.const a) 0) 0) b fun b d=>
 RR (sOp (.load 25 (.const b)) 25) d fun b d=>
 RR (aH (.func (.func 88) #[] #[]) [b]) d fun b d=>
 RR (sOp (.unOp .not 4 (.const b)) 4) d fun b d=>
 ((fun c:VW=>aj b false (
 RR (sOp (.fieldAddr 39 (.const a) 1) 0) d fun a d=>
 RR (sOp (.load 23 (.const a)) 23) d fun a d=>
 RR (ar .len #[23] 3 [false] [a]) d fun a d=>
 RR (aq .gtr 3 false true a (.int .i64 3)) d fun a d=>
 RR (sOp (.pick (.const b) (.const (.bool true)) (.const a)) 4) d fun a b=>c a b) (
 RR (sOp (.pick (.const b) (.const (.bool true)) (.const undef)) 4) d fun a b=>c a b)) fun b d=>
 aj b false (
 RR (sOp (.fieldAddr 39 (.const a) 1) 0) d fun a d=>
 RR (sOp (.load 23 (.const a)) 23) d fun a d=>
 RR (aH (.func (.func 57) #[] #[]) [a,(.func (.func 89) #[] #[])]) d fun a d=>
 RR (sOp (.pick (.const b) (.const (.bool true)) (.const a)) 4) d fun a b=>
 c a b) (
 RR (sOp (.pick (.const b) (.const (.bool true)) (.const undef)) 4) d fun a b=>
 c a b)))/\
 ∀ b _ _ _ _ _ _ _ _ _ _ _ _ _ _:Value,∀ d:World,c b d->
 CondV b (
 R (.returned (.bool false)) d) (
 RR (sOp (.fieldAddr 39 (.const a) 1) 0) d fun b c=>
 RR (sOp (.load 23 (.const b)) 23) c fun b c=>
 RR (aH (.func (.func 90) #[] #[]) [b]) c fun b c=>
 RR (sOp (.alloc 71) 0) c fun c d=>
 RR (sOp (.store 71 (.const c) (.const b)) 0) d fun _ b=>
 RR (sOp (.fieldAddr 39 (.const a) 0) 0) b fun a b=>
 RR (sOp (.load 25 (.const a)) 25) b fun a b=>
 RR (aH (.func (.func 92) #[] #[]) [a,(Value.slice none 0 0)]) b fun a b=>
 RR (fU (.func 93) [] [c]) b fun b c=>
 RR (aH (.func (.func 91) #[] #[]) [a,b]) c fun a b=>
 RR (sOp (.unOp .not 4 (.const a)) 4) b fun a b=>
 R (.returned a) b))
theorem rK {p0:Value} {w:World} {R:Ending->World->Prop} (h:no p0 w R):Calls Tryz.prog 48 #[p0] w R:=
  aK (.seq none .leaf (.seq none (.seq (some [18]) .leaf .leaf) .leaf)) [p0] be Tryz.func48 (by kernel_rfl) (by kernel_rfl) h


/- loop.example/prologserver/impl.stages : function 49 -/
def wB (p0 p1:Value) (w:World) (R:Ending->World->Prop):Prop:=
 RR (aH (.func (.func 15) #[] #[]) [p0]) w fun a b=>
 RR (sOp (.unOp .not 4 (.const a)) 4) b fun a b=>
 CondV a (
 R (.returned (.tuple #[(Value.slice none 0 0),(.int .i64 0),(.bool false)])) b) (
 (∃ a:Value->Value->World->Prop,(
 (∃ (c:Value->Value->World->Prop) (d:Value->Value->World->Nat),c (.int .i64 0) (Value.slice none 0 0) b/\
 ∀ b _ _ e _ _ _ _ _ _ _ _ _ _ _ _ _ _ _ _ _ _ _ _ _ _:Value,∀ f:World,c b e f->
 RR (aq .lss 3 false false b p1) f fun g h=>
 CondV g (
 RR (aH (.func (.func 95) #[] #[]) [p0,e]) h fun g h=>
 RR (sOp (.extract (.const g) 0) 23) h fun h i=>
 RR (sOp (.extract (.const g) 1) 4) i fun g i=>
 RR (sOp (.unOp .not 4 (.const g)) 4) i fun g i=>
 CondV g (
 R (.returned (.tuple #[(Value.slice none 0 0),(.int .i64 0),(.bool false)])) i) (
 RR (ar .len #[23] 3 [false] [h]) i fun g i=>
 RR (ar .len #[23] 3 [false] [e]) i fun i j=>
 RR (aq .eql 3 false false g i) j fun g i=>
 CondV g (
 a b e i) (
 RR (aq .add 3 false true b (.int .i64 1)) i fun a g=>
 c a h g/\d a h g<d b e f))) (
 a b e h)))/\
 ∀ b _ _ c _ _ _ _ _ _ _ _ _ _ _ _ _ _ _ _ _ _ _ _ _ _:Value,∀ d:World,a b c d->
 R (.returned (.tuple #[c,b,(.bool true)])) d))
theorem AK {p0 p1:Value} {w:World} {R:Ending->World->Prop} (h:wB p0 p1 w R):Calls Tryz.prog 49 #[p0,p1] w R:=
  aK (.seq none .leaf (.seq none .leaf (.seq none .leaf (.seq none .leaf (.seq (some [8,7]) (.one (.loop [8,7] .leaf)) .leaf))))) [p0,p1] be Tryz.func49 (by kernel_rfl) (by kernel_rfl) h


/- loop.example/prologserver/spec.ProgramValid : function 50 -/
def lc (p0:Value) (w:World) (R:Ending->World->Prop):Prop:=
 (∃ (a:Value->World->Prop) (b:Value->World->Nat),a (.int .i64 0) w/\
 ∀ c _ _ _ _ _ _ _ _ _ _ _ _ _ _ _ _ _:Value,∀ d:World,a c d->
 (∃ e:Value->World->Prop,(
 RR (ar .len #[32] 3 [false] [p0]) d fun a b=>
 RR (aq .lss 3 false false c a) b fun a b=>
 aj a true (
 RR (aq .leq 3 false true c (.int .i64 20)) b fun b c=>
 RR (sOp (.pick (.const a) (.const b) (.const (.bool false))) 4) c fun a b=>
 e a b) (
 RR (sOp (.pick (.const a) (.const undef) (.const (.bool false))) 4) b fun a b=>
 e a b))/\
 ∀ f _ _ _ _ _ _ _:Value,∀ g:World,e f g->
 CondV f (
 RR (sOp (.indexAddr 32 (.const p0) (.const c)) 0) g fun e f=>
 RR (sOp (.load 39 (.const e)) 39) f fun e f=>
 RR (aH (.func (.func 96) #[] #[]) [e]) f fun e f=>
 RR (sOp (.unOp .not 4 (.const e)) 4) f fun e f=>
 CondV e (
 R (.returned (.bool false)) f) (
 RR (aq .add 3 false true c (.int .i64 1)) f fun e f=>
 a e f/\b e f<b c d)) (
 RR (ar .len #[32] 3 [false] [p0]) g fun a b=>
 RR (aq .leq 3 false true a (.int .i64 20)) b fun a b=>
 R (.returned a) b)))
theorem oQ {p0:Value} {w:World} {R:Ending->World->Prop} (h:lc p0 w R):Calls Tryz.prog 50 #[p0] w R:=
  aK (.seq none .leaf (.seq none (.seq none .leaf (.one (.loop [3] (.seq none (.seq (some [11]) .leaf .leaf) .leaf)))) .leaf)) [p0] be Tryz.func50 (by kernel_rfl) (by kernel_rfl) h


/- loop.example/prologserver/spec.l16Clause : function 51 -/
def oC (p0:Value) (w:World) (R:Ending->World->Prop):Prop:=
 RR (sOp (.box 39 (.const p0)) 0) w fun a b=>
 (∃ c:Value->World->Prop,(
 RR (sOp (.fieldAddr 39 (.const a) 0) 0) b fun b d=>
 RR (sOp (.load 25 (.const b)) 25) d fun b d=>
 RR (aH (.func (.func 97) #[] #[]) [b]) d fun b d=>
 RR (sOp (.unOp .not 4 (.const b)) 4) d fun b d=>
 aj b false (
 RR (sOp (.fieldAddr 39 (.const a) 1) 0) d fun a d=>
 RR (sOp (.load 23 (.const a)) 23) d fun a d=>
 RR (ar .len #[23] 3 [false] [a]) d fun a d=>
 RR (aq .gtr 3 false true a (.int .i64 3)) d fun a d=>
 RR (sOp (.pick (.const b) (.const (.bool true)) (.const a)) 4) d fun a b=>
 c a b) (
 RR (sOp (.pick (.const b) (.const (.bool true)) (.const undef)) 4) d fun a b=>
 c a b))/\
 ∀ b _ _ _ _ _ _ _ _ _:Value,∀ d:World,c b d->
 CondV b (
 R (.returned (.bool false)) d) (
 RR (aS 71 0 []) d fun b c=>
 (∃ (d:Value->Value->World->Prop) (e:Value->Value->World->Nat),d (.int .i64 0) b c/\
 ∀ b _ _ c _ _ _ _ _ _ _ _ _ _ _ _ _ _ _ _ _ _ _ _:Value,∀ f:World,d b c f->
 RR (sOp (.fieldAddr 39 (.const a) 1) 0) f fun g h=>
 RR (sOp (.load 23 (.const g)) 23) h fun g h=>
 RR (ar .len #[23] 3 [false] [g]) h fun g h=>
 RR (aq .lss 3 false false b g) h fun g h=>
 CondV g (
 RR (sOp (.fieldAddr 39 (.const a) 1) 0) h fun g h=>
 RR (sOp (.load 23 (.const g)) 23) h fun g h=>
 RR (sOp (.indexAddr 23 (.const g) (.const b)) 0) h fun g h=>
 RR (sOp (.load 25 (.const g)) 25) h fun g h=>
 RR (aH (.func (.func 97) #[] #[]) [g]) h fun g h=>
 RR (sOp (.unOp .not 4 (.const g)) 4) h fun g h=>
 CondV g (
 R (.returned (.bool false)) h) (
 RR (sOp (.fieldAddr 39 (.const a) 1) 0) h fun a g=>
 RR (sOp (.load 23 (.const a)) 23) g fun a g=>
 RR (sOp (.indexAddr 23 (.const a) (.const b)) 0) g fun a g=>
 RR (sOp (.load 25 (.const a)) 25) g fun a g=>
 RR (aH (.func (.func 98) #[] #[]) [c,a]) g fun a g=>
 RR (aq .add 3 false true b (.int .i64 1)) g fun g h=>
 d g a h/\e g a h<e b c f)) (
 RR (sOp (.fieldAddr 39 (.const a) 0) 0) h fun a b=>
 RR (sOp (.load 25 (.const a)) 25) b fun a b=>
 RR (aH (.func (.func 98) #[] #[]) [(Value.slice none 0 0),a]) b fun a b=>
 (∃ (d:Value->World->Prop) (e:Value->World->Nat),d (.int .i64 0) b/\
 ∀ b _ _ _ _ _ _ _ _ _ _ _ _ _ _:Value,∀ f:World,d b f->
 RR (ar .len #[71] 3 [false] [a]) f fun g h=>
 RR (aq .lss 3 false false b g) h fun g h=>
 CondV g (
 RR (sOp (.indexAddr 71 (.const a) (.const b)) 0) h fun a g=>
 RR (sOp (.load 3 (.const a)) 3) g fun a g=>
 RR (aH (.func (.func 99) #[] #[]) [c,a]) g fun a c=>
 RR (sOp (.unOp .not 4 (.const a)) 4) c fun a c=>
 CondV a (
 R (.returned (.bool false)) c) (
 RR (aq .add 3 false true b (.int .i64 1)) c fun a c=>
 d a c/\e a c<e b f)) (
 R (.returned (.bool true)) h))))))
theorem s5 {p0:Value} {w:World} {R:Ending->World->Prop} (h:oC p0 w R):Calls Tryz.prog 51 #[p0] w R:=
  aK (.seq none .leaf (.seq none (.seq (some [16]) .leaf .leaf) (.seq none .leaf (.seq none (.seq none .leaf (.one (.loop [4,3] .leaf))) (.seq none .leaf (.seq none (.seq none .leaf (.one (.loop [6] .leaf))) .leaf)))))) [p0] be Tryz.func51 (by kernel_rfl) (by kernel_rfl) h


/- loop.example/prologserver/spec.l16Stage : function 52 -/
def qM (p0 p1:Value) (w:World) (R:Ending->World->Prop):Prop:=
 RR (aS 23 0 []) w fun a b=>
 (∃ (c:Value->Value->World->Prop) (d:Value->Value->World->Nat),c (.int .i64 0) a b/\
 ∀ a _ _ b _ _ _ _ _ _ _ _ _ _ _ _ _ _ _ _ _ _ _ _ _ _:Value,∀ e:World,c a b e->
 RR (aq .lss 3 false false a p1) e fun f g=>
 CondV f (
 RR (aH (.func (.func 100) #[] #[]) [p0,b]) g fun f g=>
 (∃ h:Value->World->Prop,(
 RR (ar .len #[23] 3 [false] [f]) g fun a c=>
 RR (ar .len #[23] 3 [false] [b]) c fun c d=>
 RR (aq .eql 3 false false a c) d fun a c=>
 aj a false (
 RR (ar .len #[23] 3 [false] [b]) c fun b c=>
 RR (aq .gtr 3 false true b (.int .i64 60)) c fun b c=>
 RR (sOp (.pick (.const a) (.const (.bool true)) (.const b)) 4) c fun a b=>
 h a b) (
 RR (sOp (.pick (.const a) (.const (.bool true)) (.const undef)) 4) c fun a b=>
 h a b))/\
 ∀ g _ _ _ _ _ _ _ _ _:Value,∀ i:World,h g i->
 CondV g (
 R (.returned (.tuple #[b,a])) i) (
 RR (aq .add 3 false true a (.int .i64 1)) i fun g h=>
 c g f h/\d g f h<d a b e))) (
 R (.returned (.tuple #[b,p1])) g))
theorem u6 {p0 p1:Value} {w:World} {R:Ending->World->Prop} (h:qM p0 p1 w R):Calls Tryz.prog 52 #[p0,p1] w R:=
  aK (.seq none .leaf (.seq none .leaf (.seq none (.seq none .leaf (.one (.loop [7,6] (.seq none .leaf (.seq none (.one (.seq none .leaf (.seq none (.seq (some [27]) .leaf .leaf) .leaf))) .leaf))))) .leaf))) [p0,p1] be Tryz.func52 (by kernel_rfl) (by kernel_rfl) h


/- loop.example/prologserver/impl.isPlain : function 54 -/
def sB (p0:Value) (w:World) (R:Ending->World->Prop):Prop:=
 RR (sOp (.box 25 (.const p0)) 0) w fun a b=>
 RR (sOp (.fieldAddr 25 (.const a) 0) 0) b fun b c=>
 RR (sOp (.load 3 (.const b)) 3) c fun b c=>
 RR (aq .eql 3 false true b (.int .i64 3)) c fun b c=>
 ((fun d:VW=>aj b true (
 RR (sOp (.fieldAddr 25 (.const a) 2) 0) c fun a c=>
 RR (sOp (.load 9 (.const a)) 9) c fun a c=>
 RR (aH (.func (.func 101) #[] #[]) [a]) c fun a c=>
 RR (sOp (.pick (.const b) (.const a) (.const (.bool false))) 4) c fun a b=>d a b) (
 RR (sOp (.pick (.const b) (.const undef) (.const (.bool false))) 4) c fun a b=>d a b)) fun b c=>
 ((fun d:VW=>aj b true (
 RR (sOp (.fieldAddr 25 (.const a) 2) 0) c fun a c=>
 RR (sOp (.load 9 (.const a)) 9) c fun a c=>
 RR (aH (.func (.func 102) #[] #[]) [a]) c fun a c=>
 RR (sOp (.unOp .not 4 (.const a)) 4) c fun a c=>
 RR (sOp (.pick (.const b) (.const a) (.const (.bool false))) 4) c fun a b=>d a b) (
 RR (sOp (.pick (.const b) (.const undef) (.const (.bool false))) 4) c fun a b=>d a b)) fun b c=>
 aj b true (
 RR (sOp (.load 25 (.const a)) 25) c fun a c=>
 RR (aH (.func (.func 103) #[] #[]) [a]) c fun a c=>
 RR (sOp (.unOp .not 4 (.const a)) 4) c fun a c=>
 RR (sOp (.pick (.const b) (.const a) (.const (.bool false))) 4) c fun a b=>
 R (.returned a) b) (
 RR (sOp (.pick (.const b) (.const undef) (.const (.bool false))) 4) c fun a b=>
 R (.returned a) b)))
theorem xt {p0:Value} {w:World} {R:Ending->World->Prop} (h:sB p0 w R):Calls Tryz.prog 54 #[p0] w R:=
  aK .leaf [p0] be Tryz.func54 (by kernel_rfl) (by kernel_rfl) h


/- slices.Contains[[]string,string] : function 55 -/
def i5 (p0 p1:Value) (w:World) (R:Ending->World->Prop):Prop:=
 RR (aH (.func (.func 104) #[] #[]) [p0,p1]) w fun a b=>
 RR (aq .geq 3 false true a (.int .i64 0)) b fun a b=>
 R (.returned a) b
theorem l2 {p0 p1:Value} {w:World} {R:Ending->World->Prop} (h:i5 p0 p1 w R):Calls Tryz.prog 55 #[p0,p1] w R:=
  aK .leaf [p0,p1] be Tryz.func55 (by kernel_rfl) (by kernel_rfl) h


/- slices.ContainsFunc[[]loop.example/prologserver/impl.Term,loop.example/prologserver/impl.Term] : function 57 -/
def g6 (p0 p1:Value) (w:World) (R:Ending->World->Prop):Prop:=
 RR (aH (.func (.func 82) #[] #[]) [p0,p1]) w fun a b=>
 RR (aq .geq 3 false true a (.int .i64 0)) b fun a b=>
 R (.returned a) b
theorem kr {p0 p1:Value} {w:World} {R:Ending->World->Prop} (h:g6 p0 p1 w R):Calls Tryz.prog 57 #[p0,p1] w R:=
  aK .leaf [p0,p1] be Tryz.func57 (by kernel_rfl) (by kernel_rfl) h


/- loop.example/prologserver/impl.ProgramValid$1 : function 58 -/
def jk (p0:Value) (w:World) (R:Ending->World->Prop):Prop:=
 RR (sOp (.box 39 (.const p0)) 0) w fun a b=>
 RR (sOp (.load 39 (.const a)) 39) b fun a b=>
 RR (aH (.func (.func 59) #[] #[]) [a]) b fun a b=>
 RR (sOp (.unOp .not 4 (.const a)) 4) b fun a b=>
 R (.returned a) b
theorem mt {p0:Value} {w:World} {R:Ending->World->Prop} (h:jk p0 w R):Calls Tryz.prog 58 #[p0] w R:=
  aK .leaf [p0] be Tryz.func58 (by kernel_rfl) (by kernel_rfl) h


/- loop.example/prologserver/impl.ClauseValid : function 59 -/
def mn (p0:Value) (w:World) (R:Ending->World->Prop):Prop:=
 RR (sOp (.box 39 (.const p0)) 0) w fun a b=>
 RR (sOp (.fieldAddr 39 (.const a) 0) 0) b fun b c=>
 RR (sOp (.load 25 (.const b)) 25) c fun b c=>
 RR (aH (.func (.func 43) #[] #[]) [b]) c fun b c=>
 ((fun d:VW=>aj b true (
 RR (sOp (.fieldAddr 39 (.const a) 0) 0) c fun a c=>
 RR (sOp (.load 25 (.const a)) 25) c fun a c=>
 RR (aH (.func (.func 54) #[] #[]) [a]) c fun a c=>
 RR (sOp (.pick (.const b) (.const a) (.const (.bool false))) 4) c fun a b=>d a b) (
 RR (sOp (.pick (.const b) (.const undef) (.const (.bool false))) 4) c fun a b=>d a b)) fun b c=>
 aj b true (
 RR (sOp (.fieldAddr 39 (.const a) 1) 0) c fun a c=>
 RR (sOp (.load 23 (.const a)) 23) c fun a c=>
 RR (aH (.func (.func 105) #[] #[]) [a]) c fun a c=>
 RR (sOp (.pick (.const b) (.const a) (.const (.bool false))) 4) c fun a b=>
 R (.returned a) b) (
 RR (sOp (.pick (.const b) (.const undef) (.const (.bool false))) 4) c fun a b=>
 R (.returned a) b))
theorem qc {p0:Value} {w:World} {R:Ending->World->Prop} (h:mn p0 w R):Calls Tryz.prog 59 #[p0] w R:=
  aK .leaf [p0] be Tryz.func59 (by kernel_rfl) (by kernel_rfl) h


/- loop.example/prologserver/spec.l4MutateAll : function 60 -/
def l4 (p0 p1:Value) (w:World) (R:Ending->World->Prop):Prop:=
 RR (aS 32 0 []) w fun a b=>
 (∃ (c:Value->Value->World->Prop) (d:Value->Value->World->Nat),c (.int .i64 0) a b/\
 ∀ a _ _ b _ _ _ _ _ _ _ _ _ _ _ _ _:Value,∀ e:World,c a b e->
 RR (ar .len #[32] 3 [false] [p1]) e fun f g=>
 RR (aq .lss 3 false false a f) g fun f g=>
 CondV f (
 RR (sOp (.indexAddr 32 (.const p1) (.const a)) 0) g fun f g=>
 RR (sOp (.load 39 (.const f)) 39) g fun f g=>
 RR (aH (.func (.func 106) #[] #[]) [p0,f]) g fun f g=>
 RR (aS 32 1 [(0,f)]) g fun f g=>
 RR (ar .append #[32,32] 32 [false,false] [b,f]) g fun f g=>
 RR (aq .add 3 false true a (.int .i64 1)) g fun g h=>
 c g f h/\d g f h<d a b e) (
 (∃ a:Value->World->Prop,(
 RR (aH (.func (.func 69) #[] #[]) [p0,(.int .i64 30)]) g fun c d=>
 RR (aq .eql 3 false true c (.int .i64 0)) d fun d e=>
 CondV d (
 (∃ (c:Value->World->Prop) (d:Value->World->Nat),c b e/\
 ∀ b _ _ _ _ _ _ _ _:Value,∀ e:World,c b e->
 RR (ar .len #[32] 3 [false] [b]) e fun f g=>
 RR (aq .leq 3 false true f (.int .i64 20)) g fun f g=>
 CondV f (
 RR (aH (.func (.func 78) #[] #[]) [(.string ⟨#[122]⟩),(Value.slice none 0 0)]) g fun a f=>
 RR (dy 39 [(0,a)]) f fun a f=>
 RR (aS 32 1 [(0,a)]) f fun a f=>
 RR (ar .append #[32,32] 32 [false,false] [b,a]) f fun a f=>
 c a f/\d a f<d b e) (
 a b g))) (
 RR (aq .eql 3 false true c (.int .i64 1)) e fun c d=>
 CondV c (
 RR (sOp (.slice 32 (.const b) (some (.const (.int .i64 1))) none none) 32) d fun b c=>
 a b c) (
 a b d)))/\
 ∀ _ _ _ _ b _ _ _ _ _ _ _ _ _ _ _ _:Value,∀ c:World,a b c->
 R (.returned b) c)))
theorem qb {p0 p1:Value} {w:World} {R:Ending->World->Prop} (h:l4 p0 p1 w R):Calls Tryz.prog 60 #[p0,p1] w R:=
  aK (.seq none .leaf (.seq none .leaf (.seq none (.seq none .leaf (.one (.loop [6,5] .leaf))) (.seq (some [5]) (.seq none .leaf (.one (.seq none .leaf (.two (.one (.loop [5] .leaf)) .leaf)))) .leaf)))) [p0,p1] be Tryz.func60 (by kernel_rfl) (by kernel_rfl) h


/- (*loop.example/prologserver/spec.l18Rd).num : function 61 -/
def oR (p0 p1:Value) (w:World) (R:Ending->World->Prop):Prop:=
 RR (ar .len #[71] 3 [false] [p1]) w fun a b=>
 RR (aH (.func (.func 69) #[] #[]) [p0,a]) b fun a b=>
 RR (sOp (.indexAddr 71 (.const p1) (.const a)) 0) b fun a b=>
 RR (sOp (.load 3 (.const a)) 3) b fun a b=>
 R (.returned a) b
theorem tS {p0 p1:Value} {w:World} {R:Ending->World->Prop} (h:oR p0 p1 w R):Calls Tryz.prog 61 #[p0,p1] w R:=
  aK .leaf [p0,p1] be Tryz.func61 (by kernel_rfl) (by kernel_rfl) h


/- loop.example/prologserver/spec.l16Copy : function 62 -/
def tQ (p0:Value) (w:World) (R:Ending->World->Prop):Prop:=
 RR (aS 23 0 []) w fun a b=>
 (∃ (c:Value->Value->World->Prop) (d:Value->Value->World->Nat),c (.int .i64 0) a b/\
 ∀ a _ _ b _ _ _ _ _ _ _ _ _ _ _ _:Value,∀ e:World,c a b e->
 RR (ar .len #[23] 3 [false] [p0]) e fun f g=>
 RR (aq .lss 3 false false a f) g fun f g=>
 CondV f (
 RR (sOp (.indexAddr 23 (.const p0) (.const a)) 0) g fun f g=>
 RR (sOp (.load 25 (.const f)) 25) g fun f g=>
 RR (aH (.func (.func 42) #[] #[]) [f]) g fun f g=>
 RR (aS 23 1 [(0,f)]) g fun f g=>
 RR (ar .append #[23,23] 23 [false,false] [b,f]) g fun f g=>
 RR (aq .add 3 false true a (.int .i64 1)) g fun g h=>
 c g f h/\d g f h<d a b e) (
 R (.returned b) g))
theorem xP {p0:Value} {w:World} {R:Ending->World->Prop} (h:tQ p0 w R):Calls Tryz.prog 62 #[p0] w R:=
  aK (.seq none .leaf (.seq none .leaf (.seq none (.seq none .leaf (.one (.loop [4,3] .leaf))) .leaf))) [p0] be Tryz.func62 (by kernel_rfl) (by kernel_rfl) h


/- loop.example/prologserver/impl.compare : function 63 -/
def tw (p0 p1:Value) (w:World) (R:Ending->World->Prop):Prop:=
 RR (sOp (.box 25 (.const p0)) 0) w fun a b=>
 RR (sOp (.box 25 (.const p1)) 0) b fun b c=>
 (∃ d:(Nat->Bool)->Value->Value->Value->Value->Value->Value->Value->Value->Value->Value->Value->Value->Value->Value->Value->Value->Value->Value->Value->Value->Value->Value->Value->Value->Value->Value->Value->Value->Value->Value->World->Prop,d (fun _=>false) (.int .i64 0) undef undef undef undef undef undef undef undef undef undef undef undef undef undef undef undef undef undef undef undef undef undef undef undef undef undef undef undef undef { c with drawn:=c.drawn+1 }/\(
 (∀ b:Nat->Bool,b 0=false->∀ c e f g h i j k l m n o p q r s t u v x y z A B C D E F G H I,d b c e f g h i j k l m n o p q r s t u v x y z A B C D E F G H I->
 RR (sOp (.load 25 (.const a)) 25) I fun a H=>
 d (ay b 0) c e f g h i j k l m n o p q r s t u v x y z A B C D E F G a H)/\
 (∀ a:Nat->Bool,a 1=false->a 0=true->∀ b c e f g h i j k l m n o p q r s t u v x y z A B C D E F G H,d a b c e f g h i j k l m n o p q r s t u v x y z A B C D E F G H->
 RR (aH (.func (.func 109) #[] #[]) [G]) H fun F H=>
 d (ay a 1) b c e f g h i j k l m n o p q r s t u v x y z A B C D E F G H)/\
 (∀ a:Nat->Bool,a 2=false->∀ c e f g h i j k l m n o p q r s t u v x y z A B C D E F G H I,d a c e f g h i j k l m n o p q r s t u v x y z A B C D E F G H I->
 RR (sOp (.load 25 (.const b)) 25) I fun b F=>
 d (ay a 2) c e f g h i j k l m n o p q r s t u v x y z A B C D E b G H F)/\
 (∀ a:Nat->Bool,a 3=false->a 2=true->a 1=true->∀ b c e f g h i j k l m n o p q r s t u v x y z A B C D E F G H,d a b c e f g h i j k l m n o p q r s t u v x y z A B C D E F G H->
 RR (aH (.func (.func 109) #[] #[]) [E]) H fun D H=>
 d (ay a 3) b c e f g h i j k l m n o p q r s t u v x y z A B C D E F G H)/\
 (∀ a:Nat->Bool,a 4=false->a 1=true->a 3=true->a 3=true->∀ b c e f g h i j k l m n o p q r s t u v x y z A B C D E F G H,d a b c e f g h i j k l m n o p q r s t u v x y z A B C D E F G H->
 RR (aH (.func (.func 108) #[] #[]) [F,D]) H fun C H=>
 d (ay a 4) b c e f g h i j k l m n o p q r s t u v x y z A B C D E F G H)/\
 (∀ b:Nat->Bool,b 5=false->∀ c e f g h i j k l m n o p q r s t u v x y z A B C D E F G H I,d b c e f g h i j k l m n o p q r s t u v x y z A B C D E F G H I->
 RR (sOp (.fieldAddr 25 (.const a) 1) 0) I fun a C=>
 d (ay b 5) c e f g h i j k l m n o p q r s t u v x y z A B a D E F G H C)/\
 (∀ a:Nat->Bool,a 6=false->a 5=true->∀ b c e f g h i j k l m n o p q r s t u v x y z A B C D E F G H,d a b c e f g h i j k l m n o p q r s t u v x y z A B C D E F G H->
 RR (sOp (.load 3 (.const B)) 3) H fun A H=>
 d (ay a 6) b c e f g h i j k l m n o p q r s t u v x y z A B C D E F G H)/\
 (∀ a:Nat->Bool,a 7=false->∀ c e f g h i j k l m n o p q r s t u v x y z A B C D E F G H I,d a c e f g h i j k l m n o p q r s t u v x y z A B C D E F G H I->
 RR (sOp (.fieldAddr 25 (.const b) 1) 0) I fun b A=>
 d (ay a 7) c e f g h i j k l m n o p q r s t u v x y z b B C D E F G H A)/\
 (∀ a:Nat->Bool,a 8=false->a 7=true->∀ b c e f g h i j k l m n o p q r s t u v x y z A B C D E F G H,d a b c e f g h i j k l m n o p q r s t u v x y z A B C D E F G H->
 RR (sOp (.load 3 (.const z)) 3) H fun y H=>
 d (ay a 8) b c e f g h i j k l m n o p q r s t u v x y z A B C D E F G H)/\
 (∀ a:Nat->Bool,a 9=false->a 6=true->a 8=true->a 4=true->∀ b c e f g h i j k l m n o p q r s t u v x y z A B C D E F G H,d a b c e f g h i j k l m n o p q r s t u v x y z A B C D E F G H->
 RR (aH (.func (.func 108) #[] #[]) [A,y]) H fun x H=>
 d (ay a 9) b c e f g h i j k l m n o p q r s t u v x y z A B C D E F G H)/\
 (∀ b:Nat->Bool,b 10=false->∀ c e f g h i j k l m n o p q r s t u v x y z A B C D E F G H I,d b c e f g h i j k l m n o p q r s t u v x y z A B C D E F G H I->
 RR (sOp (.fieldAddr 25 (.const a) 3) 0) I fun a x=>
 d (ay b 10) c e f g h i j k l m n o p q r s t u v a y z A B C D E F G H x)/\
 (∀ a:Nat->Bool,a 11=false->a 10=true->∀ b c e f g h i j k l m n o p q r s t u v x y z A B C D E F G H,d a b c e f g h i j k l m n o p q r s t u v x y z A B C D E F G H->
 RR (sOp (.load 23 (.const v)) 23) H fun u H=>
 d (ay a 11) b c e f g h i j k l m n o p q r s t u v x y z A B C D E F G H)/\
 (∀ a:Nat->Bool,a 12=false->a 11=true->∀ b c e f g h i j k l m n o p q r s t u v x y z A B C D E F G H,d a b c e f g h i j k l m n o p q r s t u v x y z A B C D E F G H->
 RR (ar .len #[23] 3 [false] [u]) H fun t H=>
 d (ay a 12) b c e f g h i j k l m n o p q r s t u v x y z A B C D E F G H)/\
 (∀ a:Nat->Bool,a 13=false->∀ c e f g h i j k l m n o p q r s t u v x y z A B C D E F G H I,d a c e f g h i j k l m n o p q r s t u v x y z A B C D E F G H I->
 RR (sOp (.fieldAddr 25 (.const b) 3) 0) I fun b t=>
 d (ay a 13) c e f g h i j k l m n o p q r s b u v x y z A B C D E F G H t)/\
 (∀ a:Nat->Bool,a 14=false->a 13=true->∀ b c e f g h i j k l m n o p q r s t u v x y z A B C D E F G H,d a b c e f g h i j k l m n o p q r s t u v x y z A B C D E F G H->
 RR (sOp (.load 23 (.const s)) 23) H fun r H=>
 d (ay a 14) b c e f g h i j k l m n o p q r s t u v x y z A B C D E F G H)/\
 (∀ a:Nat->Bool,a 15=false->a 14=true->∀ b c e f g h i j k l m n o p q r s t u v x y z A B C D E F G H,d a b c e f g h i j k l m n o p q r s t u v x y z A B C D E F G H->
 RR (ar .len #[23] 3 [false] [r]) H fun q H=>
 d (ay a 15) b c e f g h i j k l m n o p q r s t u v x y z A B C D E F G H)/\
 (∀ a:Nat->Bool,a 16=false->a 12=true->a 15=true->a 9=true->∀ b c e f g h i j k l m n o p q r s t u v x y z A B C D E F G H,d a b c e f g h i j k l m n o p q r s t u v x y z A B C D E F G H->
 RR (aH (.func (.func 108) #[] #[]) [t,q]) H fun p H=>
 d (ay a 16) b c e f g h i j k l m n o p q r s t u v x y z A B C D E F G H)/\
 (∀ b:Nat->Bool,b 17=false->∀ c e f g h i j k l m n o p q r s t u v x y z A B C D E F G H I,d b c e f g h i j k l m n o p q r s t u v x y z A B C D E F G H I->
 RR (sOp (.fieldAddr 25 (.const a) 2) 0) I fun a p=>
 d (ay b 17) c e f g h i j k l m n o a q r s t u v x y z A B C D E F G H p)/\
 (∀ a:Nat->Bool,a 18=false->a 17=true->∀ b c e f g h i j k l m n o p q r s t u v x y z A B C D E F G H,d a b c e f g h i j k l m n o p q r s t u v x y z A B C D E F G H->
 RR (sOp (.load 9 (.const o)) 9) H fun n H=>
 d (ay a 18) b c e f g h i j k l m n o p q r s t u v x y z A B C D E F G H)/\
 (∀ a:Nat->Bool,a 19=false->∀ c e f g h i j k l m n o p q r s t u v x y z A B C D E F G H I,d a c e f g h i j k l m n o p q r s t u v x y z A B C D E F G H I->
 RR (sOp (.fieldAddr 25 (.const b) 2) 0) I fun b n=>
 d (ay a 19) c e f g h i j k l m b o p q r s t u v x y z A B C D E F G H n)/\
 (∀ a:Nat->Bool,a 20=false->a 19=true->∀ b c e f g h i j k l m n o p q r s t u v x y z A B C D E F G H,d a b c e f g h i j k l m n o p q r s t u v x y z A B C D E F G H->
 RR (sOp (.load 9 (.const m)) 9) H fun l H=>
 d (ay a 20) b c e f g h i j k l m n o p q r s t u v x y z A B C D E F G H)/\
 (∀ a:Nat->Bool,a 21=false->a 18=true->a 20=true->a 16=true->∀ b c e f g h i j k l m n o p q r s t u v x y z A B C D E F G H,d a b c e f g h i j k l m n o p q r s t u v x y z A B C D E F G H->
 RR (aH (.func (.func 110) #[] #[]) [n,l]) H fun k H=>
 d (ay a 21) b c e f g h i j k l m n o p q r s t u v x y z A B C D E F G H)/\
 (∀ b:Nat->Bool,b 22=false->∀ c e f g h i j k l m n o p q r s t u v x y z A B C D E F G H I,d b c e f g h i j k l m n o p q r s t u v x y z A B C D E F G H I->
 RR (sOp (.fieldAddr 25 (.const a) 3) 0) I fun a k=>
 d (ay b 22) c e f g h i j a l m n o p q r s t u v x y z A B C D E F G H k)/\
 (∀ a:Nat->Bool,a 23=false->a 22=true->∀ b c e f g h i j k l m n o p q r s t u v x y z A B C D E F G H,d a b c e f g h i j k l m n o p q r s t u v x y z A B C D E F G H->
 RR (sOp (.load 23 (.const j)) 23) H fun i H=>
 d (ay a 23) b c e f g h i j k l m n o p q r s t u v x y z A B C D E F G H)/\
 (∀ a:Nat->Bool,a 24=false->∀ c e f g h i j k l m n o p q r s t u v x y z A B C D E F G H I,d a c e f g h i j k l m n o p q r s t u v x y z A B C D E F G H I->
 RR (sOp (.fieldAddr 25 (.const b) 3) 0) I fun b i=>
 d (ay a 24) c e f g h b j k l m n o p q r s t u v x y z A B C D E F G H i)/\
 (∀ a:Nat->Bool,a 25=false->a 24=true->∀ b c e f g h i j k l m n o p q r s t u v x y z A B C D E F G H,d a b c e f g h i j k l m n o p q r s t u v x y z A B C D E F G H->
 RR (sOp (.load 23 (.const h)) 23) H fun g H=>
 d (ay a 25) b c e f g h i j k l m n o p q r s t u v x y z A B C D E F G H)/\
 (∀ a:Nat->Bool,a 26=false->a 23=true->a 25=true->a 21=true->∀ b c e f g h i j k l m n o p q r s t u v x y z A B C D E F G H,d a b c e f g h i j k l m n o p q r s t u v x y z A B C D E F G H->
 RR (aH (.func (.func 111) #[] #[]) [i,g,(.func (.func 63) #[] #[])]) H fun f H=>
 d (ay a 26) b c e f g h i j k l m n o p q r s t u v x y z A B C D E F G H)/\
 (∀ a:Nat->Bool,a 27=false->a 4=true->a 9=true->a 16=true->a 21=true->a 26=true->∀ b c e f g h i j k l m n o p q r s t u v x y z A B C D E F G H,d a b c e f g h i j k l m n o p q r s t u v x y z A B C D E F G H->
 RR (aS 71 5 [(0,C),(1,x),(2,p),(3,k),(4,f)]) H fun e H=>
 d (ay a 27) b c e f g h i j k l m n o p q r s t u v x y z A B C D E F G H)/\
 (∀ a:Nat->Bool,a 28=false->a 27=true->a 26=true->∀ b c e f g h i j k l m n o p q r s t u v x y z A B C D E F G H,d a b c e f g h i j k l m n o p q r s t u v x y z A B C D E F G H->
 RR (aH (.func (.func 107) #[] #[]) [e]) H fun c H=>
 d (ay a 28) b c e f g h i j k l m n o p q r s t u v x y z A B C D E F G H)/\
 (∀ a:Nat->Bool,a 29=false->a 28=true->a 28=true->a 0=true->a 1=true->a 2=true->a 3=true->a 4=true->a 5=true->a 6=true->a 7=true->a 8=true->a 9=true->a 10=true->a 11=true->a 12=true->a 13=true->a 14=true->a 15=true->a 16=true->a 17=true->a 18=true->a 19=true->a 20=true->a 21=true->a 22=true->a 23=true->a 24=true->a 25=true->a 26=true->a 27=true->a 28=true->∀ b c e f g h i j k l m n o p q r s t u v x y z A B C D E F G H,d a b c e f g h i j k l m n o p q r s t u v x y z A B C D E F G H->
 d (ay a 29) c c e f g h i j k l m n o p q r s t u v x y z A B C D E F G H)/\
 True)/\
 ∀ a:Nat->Bool,a 29=true->a 28=true->a 27=true->a 26=true->a 25=true->a 24=true->a 23=true->a 22=true->a 21=true->a 20=true->a 19=true->a 18=true->a 17=true->a 16=true->a 15=true->a 14=true->a 13=true->a 12=true->a 11=true->a 10=true->a 9=true->a 8=true->a 7=true->a 6=true->a 5=true->a 4=true->a 3=true->a 2=true->a 1=true->a 0=true->∀ b c e f g h i j k l m n o p q r s t u v x y z A B C D E F G H,d a b c e f g h i j k l m n o p q r s t u v x y z A B C D E F G H->
 R (.returned b) H)
theorem yi {p0 p1:Value} {w:World} {R:Ending->World->Prop} (h:tw p0 p1 w R):Calls Tryz.prog 63 #[p0,p1] w R:=
  aK .leaf [p0,p1] be Tryz.func63 (by kernel_rfl) (by kernel_rfl) h


/- loop.example/prologserver/impl.ModelClosed$1 : function 64 -/
def j9 (p0:Value) (w:World) (R:Ending->World->Prop):Prop:=
 RR (sOp (.box 25 (.const p0)) 0) w fun a b=>
 RR (sOp (.load 25 (.const a)) 25) b fun a b=>
 RR (aH (.func (.func 65) #[] #[]) [a]) b fun a b=>
 RR (sOp (.unOp .not 4 (.const a)) 4) b fun a b=>
 R (.returned a) b
theorem nD {p0:Value} {w:World} {R:Ending->World->Prop} (h:j9 p0 w R):Calls Tryz.prog 64 #[p0] w R:=
  aK .leaf [p0] be Tryz.func64 (by kernel_rfl) (by kernel_rfl) h


/- loop.example/prologserver/impl.isFact : function 65 -/
def wh (p0:Value) (w:World) (R:Ending->World->Prop):Prop:=
 RR (sOp (.box 25 (.const p0)) 0) w fun a b=>
 RR (sOp (.load 25 (.const a)) 25) b fun b c=>
 RR (aH (.func (.func 43) #[] #[]) [b]) c fun b c=>
 ((fun d:VW=>aj b true (
 RR (sOp (.load 25 (.const a)) 25) c fun a c=>
 RR (aH (.func (.func 88) #[] #[]) [a]) c fun a c=>
 RR (sOp (.pick (.const b) (.const a) (.const (.bool false))) 4) c fun a b=>d a b) (
 RR (sOp (.pick (.const b) (.const undef) (.const (.bool false))) 4) c fun a b=>d a b)) fun b c=>
 aj b true (
 RR (sOp (.load 25 (.const a)) 25) c fun a c=>
 RR (aH (.func (.func 92) #[] #[]) [a,(Value.slice none 0 0)]) c fun a c=>
 RR (ar .len #[71] 3 [false] [a]) c fun a c=>
 RR (aq .eql 3 false true a (.int .i64 0)) c fun a c=>
 RR (sOp (.pick (.const b) (.const a) (.const (.bool false))) 4) c fun a b=>
 R (.returned a) b) (
 RR (sOp (.pick (.const b) (.const undef) (.const (.bool false))) 4) c fun a b=>
 R (.returned a) b))
theorem zd {p0:Value} {w:World} {R:Ending->World->Prop} (h:wh p0 w R):Calls Tryz.prog 65 #[p0] w R:=
  aK .leaf [p0] be Tryz.func65 (by kernel_rfl) (by kernel_rfl) h


/- loop.example/prologserver/impl.follows : function 66 -/
def mH (p0 p1 p2 p3 p4:Value) (w:World) (R:Ending->World->Prop):Prop:=
 RR (sOp (.box 39 (.const p0)) 0) w fun a b=>
 RR (sOp (.box 59 (.const p3)) 0) b fun b c=>
 RR (sOp (.fieldAddr 39 (.const a) 1) 0) c fun c d=>
 RR (sOp (.load 23 (.const c)) 23) d fun c d=>
 RR (ar .len #[23] 3 [false] [c]) d fun c d=>
 RR (aq .eql 3 false false p1 c) d fun c d=>
 CondV c (
 RR (sOp (.fieldAddr 39 (.const a) 0) 0) d fun a c=>
 RR (sOp (.load 25 (.const a)) 25) c fun a c=>
 RR (fU (.func 113) [] [b]) c fun b c=>
 RR (aH (.func (.func 112) #[] #[]) [a,b]) c fun a b=>
 RR (aH p4 [a]) b fun _ a=>
 R (.returned (.tuple #[])) a) (
 RR (ar .len #[23] 3 [false] [p2]) d fun c d=>
 (∃ (e:Value->World->Prop) (f:Value->World->Nat),e (.int .i64 0) d/\
 ∀ d _ _ _ _ _ _ _ _ g h i j k l m n _ _ _ _ _ _ _:Value,∀ o:World,e d o->
 RR (aq .lss 3 false false d c) o fun c p=>
 CondV c (
 (∃ c:World->Prop,(
 RR (sOp (.indexAddr 23 (.const p2) (.const d)) 0) p fun d e=>
 RR (sOp (.load 25 (.const d)) 25) e fun d e=>
 RR (sOp (.alloc 25) 0) e fun e f=>
 RR (sOp (.store 25 (.const e) (.const d)) 0) f fun _ d=>
 RR (sOp (.load 59 (.const b)) 59) d fun b d=>
 RR (aH (.func (.func 114) #[] #[]) [b]) d fun b d=>
 (∃ f:(Nat->Bool)->Value->Value->Value->Value->Value->Value->Value->Value->World->Prop,f (fun _=>false) g h i j k l m n { d with drawn:=d.drawn+1 }/\(
 (∀ a:Nat->Bool,a 0=false->∀ b c d g h i j k l,f a b c d g h i j k l->
 RR (sOp (.load 25 (.const e)) 25) l fun e k=>
 f (ay a 0) b c d g h i j e k)/\
 (∀ b:Nat->Bool,b 1=false->∀ c d e g h i j k l,f b c d e g h i j k l->
 RR (sOp (.fieldAddr 39 (.const a) 1) 0) l fun a j=>
 f (ay b 1) c d e g h i a k j)/\
 (∀ a:Nat->Bool,a 2=false->a 1=true->∀ b c d e g h i j k,f a b c d e g h i j k->
 RR (sOp (.load 23 (.const i)) 23) k fun h k=>
 f (ay a 2) b c d e g h i j k)/\
 (∀ a:Nat->Bool,a 3=false->∀ b c d e g h i j k,f a b c d e g h i j k->
 f (ay a 3) b c d e p1 h i j k)/\
 (∀ a:Nat->Bool,a 4=false->a 2=true->a 3=true->∀ b c d e g h i j k,f a b c d e g h i j k->
 RR (sOp (.indexAddr 23 (.const h) (.const g)) 0) k fun e k=>
 f (ay a 4) b c d e g h i j k)/\
 (∀ a:Nat->Bool,a 5=false->a 4=true->∀ b c d e g h i j k,f a b c d e g h i j k->
 RR (sOp (.load 25 (.const e)) 25) k fun d k=>
 f (ay a 5) b c d e g h i j k)/\
 (∀ a:Nat->Bool,a 6=false->∀ c d e g h i j k l,f a c d e g h i j k l->
 f (ay a 6) c b e g h i j k l)/\
 (∀ a:Nat->Bool,a 7=false->a 0=true->a 5=true->a 6=true->∀ b c d e g h i j k,f a b c d e g h i j k->
 RR (aH (.func (.func 44) #[] #[]) [j,d,c]) k fun b k=>
 f (ay a 7) b c d e g h i j k)/\
 True)/\
 ∀ d:Nat->Bool,d 7=true->d 6=true->d 5=true->d 4=true->d 3=true->d 2=true->d 1=true->d 0=true->∀ e g h i j k l m n,f d e g h i j k l m n->
 CondV e (
 RR (sOp (.load 39 (.const a)) 39) n fun a d=>
 RR (aq .add 3 false true p1 (.int .i64 1)) d fun d e=>
 RR (aH (.func (.func 66) #[] #[]) [a,d,p2,b,p4]) e fun _ a=>
 c a) (
 c n)))/\
 ∀ _ _ _ _ _ _ _ _ _ _ _ _ _ _ _ _ _ _ _ _ _:Value,∀ a:World,c a->
 RR (aq .add 3 false true d (.int .i64 1)) a fun a b=>
 e a b/\f a b<f d o)) (
 R (.returned (.tuple #[])) p)))
theorem na {p0 p1 p2 p3 p4:Value} {w:World} {R:Ending->World->Prop} (h:mH p0 p1 p2 p3 p4 w R):Calls Tryz.prog 66 #[p0,p1,p2,p3,p4] w R:=
  aK (.seq none .leaf (.seq none .leaf (.seq none .leaf (.one (.loop [26] (.seq none .leaf (.seq none .leaf (.seq (some []) .leaf .leaf)))))))) [p0,p1,p2,p3,p4] be Tryz.func66 (by kernel_rfl) (by kernel_rfl) h


/- loop.example/prologserver/impl.ModelClosed$2 : function 67 -/
def j7 (p0 p1 p2:Value) (w:World) (R:Ending->World->Prop):Prop:=
 RR (sOp (.box 25 (.const p0)) 0) w fun a b=>
 RR (sOp (.load 4 (.const p1)) 4) b fun b c=>
 aj b true (
 RR (sOp (.load 23 (.const p2)) 23) c fun c d=>
 RR (fU (.func 68) [] [a]) d fun a d=>
 RR (aH (.func (.func 57) #[] #[]) [c,a]) d fun a c=>
 RR (sOp (.pick (.const b) (.const a) (.const (.bool false))) 4) c fun a b=>
 RR (sOp (.store 4 (.const p1) (.const a)) 0) b fun _ a=>
 R (.returned (.tuple #[])) a) (
 RR (sOp (.pick (.const b) (.const undef) (.const (.bool false))) 4) c fun a b=>
 RR (sOp (.store 4 (.const p1) (.const a)) 0) b fun _ a=>
 R (.returned (.tuple #[])) a)
theorem nE {p0 p1 p2:Value} {w:World} {R:Ending->World->Prop} (h:j7 p0 p1 p2 w R):Calls Tryz.prog 67 #[p0,p1,p2] w R:=
  aK .leaf [p0,p1,p2] be Tryz.func67 (by kernel_rfl) (by kernel_rfl) h


/- loop.example/prologserver/impl.ModelClosed$2$1 : function 68 -/
def i9 (p0 p1:Value) (w:World) (R:Ending->World->Prop):Prop:=
 RR (sOp (.box 25 (.const p0)) 0) w fun a b=>
 RR (sOp (.load 25 (.const a)) 25) b fun a b=>
 RR (sOp (.load 25 (.const p1)) 25) b fun b c=>
 RR (aH (.func (.func 40) #[] #[]) [a,b]) c fun a b=>
 R (.returned a) b
theorem lU {p0 p1:Value} {w:World} {R:Ending->World->Prop} (h:i9 p0 p1 w R):Calls Tryz.prog 68 #[p0,p1] w R:=
  aK .leaf [p0,p1] be Tryz.func68 (by kernel_rfl) (by kernel_rfl) h


/- (*loop.example/prologserver/spec.l18Rd).pick : function 69 -/
def nf (p0 p1:Value) (w:World) (R:Ending->World->Prop):Prop:=
 RR (sOp (.nilCheck (.const p0)) 0) w fun a b=>
 RR (sOp (.fieldAddr 78 (.const a) 1) 0) b fun a b=>
 RR (sOp (.load 3 (.const a)) 3) b fun a b=>
 RR (aq .add 3 false true a (.int .i64 1)) b fun a b=>
 RR (sOp (.nilCheck (.const p0)) 0) b fun b c=>
 RR (sOp (.fieldAddr 78 (.const b) 1) 0) c fun b c=>
 RR (sOp (.store 3 (.const b) (.const a)) 0) c fun _ a=>
 (∃ b:Value->World->Prop,(
 RR (aq .lss 3 false true p1 (.int .i64 1)) a fun a c=>
 aj a false (
 RR (sOp (.nilCheck (.const p0)) 0) c fun c d=>
 RR (sOp (.fieldAddr 78 (.const c) 0) 0) d fun c d=>
 RR (sOp (.load 22 (.const c)) 22) d fun c d=>
 RR (ar .len #[22] 3 [false] [c]) d fun c d=>
 RR (aq .eql 3 false true c (.int .i64 0)) d fun c d=>
 RR (sOp (.pick (.const a) (.const (.bool true)) (.const c)) 4) d fun a c=>
 b a c) (
 RR (sOp (.pick (.const a) (.const (.bool true)) (.const undef)) 4) c fun a c=>
 b a c))/\
 ∀ a _ _ _ _ _ _ _ _ _:Value,∀ c:World,b a c->
 CondV a (
 R (.returned (.int .i64 0)) c) (
 RR (sOp (.nilCheck (.const p0)) 0) c fun a b=>
 RR (sOp (.fieldAddr 78 (.const a) 1) 0) b fun a b=>
 RR (sOp (.load 3 (.const a)) 3) b fun a b=>
 RR (aq .sub 3 false true a (.int .i64 1)) b fun a b=>
 RR (sOp (.nilCheck (.const p0)) 0) b fun b c=>
 RR (sOp (.fieldAddr 78 (.const b) 0) 0) c fun b c=>
 RR (sOp (.load 22 (.const b)) 22) c fun b c=>
 RR (ar .len #[22] 3 [false] [b]) c fun b c=>
 RR (aq .lss 3 false false a b) c fun b c=>
 CondV b (
 RR (sOp (.nilCheck (.const p0)) 0) c fun b c=>
 RR (sOp (.fieldAddr 78 (.const b) 0) 0) c fun b c=>
 RR (sOp (.load 22 (.const b)) 22) c fun b c=>
 RR (sOp (.indexAddr 22 (.const b) (.const a)) 0) c fun a b=>
 RR (sOp (.load 5 (.const a)) 5) b fun a b=>
 RR (sOp (.convert 5 3 (.const a)) 3) b fun a b=>
 RR (aq .rem 3 false false a p1) b fun a b=>
 R (.returned a) b) (
 (∃ b:(Nat->Bool)->Value->Value->Value->Value->Value->Value->Value->Value->Value->Value->Value->Value->Value->Value->Value->Value->Value->Value->Value->Value->Value->Value->Value->Value->Value->Value->Value->Value->Value->Value->Value->Value->Value->Value->Value->Value->Value->Value->Value->Value->Value->Value->Value->Value->Value->Value->World->Prop,b (fun _=>false) undef undef undef undef undef undef undef undef undef undef undef undef undef undef undef undef undef undef undef undef undef undef undef undef undef undef undef undef undef undef undef undef undef undef undef undef undef undef undef undef undef undef undef undef undef undef { c with drawn:=c.drawn+1 }/\(
 (∀ a:Nat->Bool,a 0=false->∀ c d e f g h i j k l m n o p q r s t u v x y z A B C D E F G H I J K L M N O P Q S T U V W X Y,b a c d e f g h i j k l m n o p q r s t u v x y z A B C D E F G H I J K L M N O P Q S T U V W X Y->
 b (ay a 0) c d e f g h i j k l m n o p q r s t u v x y z A B C D E F G H I J K L M N O P Q S T U V W p0 Y)/\
 (∀ a:Nat->Bool,a 1=false->a 0=true->∀ c d e f g h i j k l m n o p q r s t u v x y z A B C D E F G H I J K L M N O P Q S T U V W X Y,b a c d e f g h i j k l m n o p q r s t u v x y z A B C D E F G H I J K L M N O P Q S T U V W X Y->
 RR (sOp (.nilCheck (.const X)) 0) Y fun W Y=>
 b (ay a 1) c d e f g h i j k l m n o p q r s t u v x y z A B C D E F G H I J K L M N O P Q S T U V W X Y)/\
 (∀ a:Nat->Bool,a 2=false->a 1=true->∀ c d e f g h i j k l m n o p q r s t u v x y z A B C D E F G H I J K L M N O P Q S T U V W X Y,b a c d e f g h i j k l m n o p q r s t u v x y z A B C D E F G H I J K L M N O P Q S T U V W X Y->
 RR (sOp (.fieldAddr 78 (.const W) 0) 0) Y fun V Y=>
 b (ay a 2) c d e f g h i j k l m n o p q r s t u v x y z A B C D E F G H I J K L M N O P Q S T U V W X Y)/\
 (∀ a:Nat->Bool,a 3=false->a 2=true->∀ c d e f g h i j k l m n o p q r s t u v x y z A B C D E F G H I J K L M N O P Q S T U V W X Y,b a c d e f g h i j k l m n o p q r s t u v x y z A B C D E F G H I J K L M N O P Q S T U V W X Y->
 RR (sOp (.load 22 (.const V)) 22) Y fun U Y=>
 b (ay a 3) c d e f g h i j k l m n o p q r s t u v x y z A B C D E F G H I J K L M N O P Q S T U V W X Y)/\
 (∀ c:Nat->Bool,c 4=false->∀ d e f g h i j k l m n o p q r s t u v x y z A B C D E F G H I J K L M N O P Q S T U V W X Y Z,b c d e f g h i j k l m n o p q r s t u v x y z A B C D E F G H I J K L M N O P Q S T U V W X Y Z->
 b (ay c 4) d e f g h i j k l m n o p q r s t u v x y z A B C D E F G H I J K L M N O P Q S T a V W X Y Z)/\
 (∀ a:Nat->Bool,a 5=false->∀ c d e f g h i j k l m n o p q r s t u v x y z A B C D E F G H I J K L M N O P Q S T U V W X Y,b a c d e f g h i j k l m n o p q r s t u v x y z A B C D E F G H I J K L M N O P Q S T U V W X Y->
 b (ay a 5) c d e f g h i j k l m n o p q r s t u v x y z A B C D E F G H I J K L M N O P Q p0 T U V W X Y)/\
 (∀ a:Nat->Bool,a 6=false->a 5=true->∀ c d e f g h i j k l m n o p q r s t u v x y z A B C D E F G H I J K L M N O P Q S T U V W X Y,b a c d e f g h i j k l m n o p q r s t u v x y z A B C D E F G H I J K L M N O P Q S T U V W X Y->
 RR (sOp (.nilCheck (.const S)) 0) Y fun Q Y=>
 b (ay a 6) c d e f g h i j k l m n o p q r s t u v x y z A B C D E F G H I J K L M N O P Q S T U V W X Y)/\
 (∀ a:Nat->Bool,a 7=false->a 6=true->∀ c d e f g h i j k l m n o p q r s t u v x y z A B C D E F G H I J K L M N O P Q S T U V W X Y,b a c d e f g h i j k l m n o p q r s t u v x y z A B C D E F G H I J K L M N O P Q S T U V W X Y->
 RR (sOp (.fieldAddr 78 (.const Q) 0) 0) Y fun P Y=>
 b (ay a 7) c d e f g h i j k l m n o p q r s t u v x y z A B C D E F G H I J K L M N O P Q S T U V W X Y)/\
 (∀ a:Nat->Bool,a 8=false->a 7=true->∀ c d e f g h i j k l m n o p q r s t u v x y z A B C D E F G H I J K L M N O P Q S T U V W X Y,b a c d e f g h i j k l m n o p q r s t u v x y z A B C D E F G H I J K L M N O P Q S T U V W X Y->
 RR (sOp (.load 22 (.const P)) 22) Y fun O Y=>
 b (ay a 8) c d e f g h i j k l m n o p q r s t u v x y z A B C D E F G H I J K L M N O P Q S T U V W X Y)/\
 (∀ a:Nat->Bool,a 9=false->a 8=true->∀ c d e f g h i j k l m n o p q r s t u v x y z A B C D E F G H I J K L M N O P Q S T U V W X Y,b a c d e f g h i j k l m n o p q r s t u v x y z A B C D E F G H I J K L M N O P Q S T U V W X Y->
 RR (ar .len #[22] 3 [false] [O]) Y fun N Y=>
 b (ay a 9) c d e f g h i j k l m n o p q r s t u v x y z A B C D E F G H I J K L M N O P Q S T U V W X Y)/\
 (∀ a:Nat->Bool,a 10=false->a 4=true->a 9=true->∀ c d e f g h i j k l m n o p q r s t u v x y z A B C D E F G H I J K L M N O P Q S T U V W X Y,b a c d e f g h i j k l m n o p q r s t u v x y z A B C D E F G H I J K L M N O P Q S T U V W X Y->
 RR (aq .rem 3 false false T N) Y fun M Y=>
 b (ay a 10) c d e f g h i j k l m n o p q r s t u v x y z A B C D E F G H I J K L M N O P Q S T U V W X Y)/\
 (∀ a:Nat->Bool,a 11=false->a 3=true->a 10=true->∀ c d e f g h i j k l m n o p q r s t u v x y z A B C D E F G H I J K L M N O P Q S T U V W X Y,b a c d e f g h i j k l m n o p q r s t u v x y z A B C D E F G H I J K L M N O P Q S T U V W X Y->
 RR (sOp (.indexAddr 22 (.const U) (.const M)) 0) Y fun L Y=>
 b (ay a 11) c d e f g h i j k l m n o p q r s t u v x y z A B C D E F G H I J K L M N O P Q S T U V W X Y)/\
 (∀ a:Nat->Bool,a 12=false->a 11=true->∀ c d e f g h i j k l m n o p q r s t u v x y z A B C D E F G H I J K L M N O P Q S T U V W X Y,b a c d e f g h i j k l m n o p q r s t u v x y z A B C D E F G H I J K L M N O P Q S T U V W X Y->
 RR (sOp (.load 5 (.const L)) 5) Y fun K Y=>
 b (ay a 12) c d e f g h i j k l m n o p q r s t u v x y z A B C D E F G H I J K L M N O P Q S T U V W X Y)/\
 (∀ a:Nat->Bool,a 13=false->a 12=true->∀ c d e f g h i j k l m n o p q r s t u v x y z A B C D E F G H I J K L M N O P Q S T U V W X Y,b a c d e f g h i j k l m n o p q r s t u v x y z A B C D E F G H I J K L M N O P Q S T U V W X Y->
 RR (sOp (.convert 5 3 (.const K)) 3) Y fun J Y=>
 b (ay a 13) c d e f g h i j k l m n o p q r s t u v x y z A B C D E F G H I J K L M N O P Q S T U V W X Y)/\
 (∀ a:Nat->Bool,a 14=false->a 13=true->∀ c d e f g h i j k l m n o p q r s t u v x y z A B C D E F G H I J K L M N O P Q S T U V W X Y,b a c d e f g h i j k l m n o p q r s t u v x y z A B C D E F G H I J K L M N O P Q S T U V W X Y->
 RR (aq .mul 3 false true J (.int .i64 131)) Y fun I Y=>
 b (ay a 14) c d e f g h i j k l m n o p q r s t u v x y z A B C D E F G H I J K L M N O P Q S T U V W X Y)/\
 (∀ a:Nat->Bool,a 15=false->∀ c d e f g h i j k l m n o p q r s t u v x y z A B C D E F G H I J K L M N O P Q S T U V W X Y,b a c d e f g h i j k l m n o p q r s t u v x y z A B C D E F G H I J K L M N O P Q S T U V W X Y->
 b (ay a 15) c d e f g h i j k l m n o p q r s t u v x y z A B C D E F G p0 I J K L M N O P Q S T U V W X Y)/\
 (∀ a:Nat->Bool,a 16=false->a 15=true->∀ c d e f g h i j k l m n o p q r s t u v x y z A B C D E F G H I J K L M N O P Q S T U V W X Y,b a c d e f g h i j k l m n o p q r s t u v x y z A B C D E F G H I J K L M N O P Q S T U V W X Y->
 RR (sOp (.nilCheck (.const H)) 0) Y fun G Y=>
 b (ay a 16) c d e f g h i j k l m n o p q r s t u v x y z A B C D E F G H I J K L M N O P Q S T U V W X Y)/\
 (∀ a:Nat->Bool,a 17=false->a 16=true->∀ c d e f g h i j k l m n o p q r s t u v x y z A B C D E F G H I J K L M N O P Q S T U V W X Y,b a c d e f g h i j k l m n o p q r s t u v x y z A B C D E F G H I J K L M N O P Q S T U V W X Y->
 RR (sOp (.fieldAddr 78 (.const G) 0) 0) Y fun F Y=>
 b (ay a 17) c d e f g h i j k l m n o p q r s t u v x y z A B C D E F G H I J K L M N O P Q S T U V W X Y)/\
 (∀ a:Nat->Bool,a 18=false->a 17=true->∀ c d e f g h i j k l m n o p q r s t u v x y z A B C D E F G H I J K L M N O P Q S T U V W X Y,b a c d e f g h i j k l m n o p q r s t u v x y z A B C D E F G H I J K L M N O P Q S T U V W X Y->
 RR (sOp (.load 22 (.const F)) 22) Y fun E Y=>
 b (ay a 18) c d e f g h i j k l m n o p q r s t u v x y z A B C D E F G H I J K L M N O P Q S T U V W X Y)/\
 (∀ c:Nat->Bool,c 19=false->∀ d e f g h i j k l m n o p q r s t u v x y z A B C D E F G H I J K L M N O P Q S T U V W X Y Z,b c d e f g h i j k l m n o p q r s t u v x y z A B C D E F G H I J K L M N O P Q S T U V W X Y Z->
 b (ay c 19) d e f g h i j k l m n o p q r s t u v x y z A B C D a F G H I J K L M N O P Q S T U V W X Y Z)/\
 (∀ a:Nat->Bool,a 20=false->a 19=true->∀ c d e f g h i j k l m n o p q r s t u v x y z A B C D E F G H I J K L M N O P Q S T U V W X Y,b a c d e f g h i j k l m n o p q r s t u v x y z A B C D E F G H I J K L M N O P Q S T U V W X Y->
 RR (aq .mul 3 false true D (.int .i64 7)) Y fun C Y=>
 b (ay a 20) c d e f g h i j k l m n o p q r s t u v x y z A B C D E F G H I J K L M N O P Q S T U V W X Y)/\
 (∀ a:Nat->Bool,a 21=false->a 20=true->∀ c d e f g h i j k l m n o p q r s t u v x y z A B C D E F G H I J K L M N O P Q S T U V W X Y,b a c d e f g h i j k l m n o p q r s t u v x y z A B C D E F G H I J K L M N O P Q S T U V W X Y->
 RR (aq .add 3 false true C (.int .i64 3)) Y fun B Y=>
 b (ay a 21) c d e f g h i j k l m n o p q r s t u v x y z A B C D E F G H I J K L M N O P Q S T U V W X Y)/\
 (∀ a:Nat->Bool,a 22=false->∀ c d e f g h i j k l m n o p q r s t u v x y z A B C D E F G H I J K L M N O P Q S T U V W X Y,b a c d e f g h i j k l m n o p q r s t u v x y z A B C D E F G H I J K L M N O P Q S T U V W X Y->
 b (ay a 22) c d e f g h i j k l m n o p q r s t u v x y z p0 B C D E F G H I J K L M N O P Q S T U V W X Y)/\
 (∀ a:Nat->Bool,a 23=false->a 22=true->∀ c d e f g h i j k l m n o p q r s t u v x y z A B C D E F G H I J K L M N O P Q S T U V W X Y,b a c d e f g h i j k l m n o p q r s t u v x y z A B C D E F G H I J K L M N O P Q S T U V W X Y->
 RR (sOp (.nilCheck (.const A)) 0) Y fun z Y=>
 b (ay a 23) c d e f g h i j k l m n o p q r s t u v x y z A B C D E F G H I J K L M N O P Q S T U V W X Y)/\
 (∀ a:Nat->Bool,a 24=false->a 23=true->∀ c d e f g h i j k l m n o p q r s t u v x y z A B C D E F G H I J K L M N O P Q S T U V W X Y,b a c d e f g h i j k l m n o p q r s t u v x y z A B C D E F G H I J K L M N O P Q S T U V W X Y->
 RR (sOp (.fieldAddr 78 (.const z) 0) 0) Y fun y Y=>
 b (ay a 24) c d e f g h i j k l m n o p q r s t u v x y z A B C D E F G H I J K L M N O P Q S T U V W X Y)/\
 (∀ a:Nat->Bool,a 25=false->a 24=true->∀ c d e f g h i j k l m n o p q r s t u v x y z A B C D E F G H I J K L M N O P Q S T U V W X Y,b a c d e f g h i j k l m n o p q r s t u v x y z A B C D E F G H I J K L M N O P Q S T U V W X Y->
 RR (sOp (.load 22 (.const y)) 22) Y fun x Y=>
 b (ay a 25) c d e f g h i j k l m n o p q r s t u v x y z A B C D E F G H I J K L M N O P Q S T U V W X Y)/\
 (∀ a:Nat->Bool,a 26=false->a 25=true->∀ c d e f g h i j k l m n o p q r s t u v x y z A B C D E F G H I J K L M N O P Q S T U V W X Y,b a c d e f g h i j k l m n o p q r s t u v x y z A B C D E F G H I J K L M N O P Q S T U V W X Y->
 RR (ar .len #[22] 3 [false] [x]) Y fun v Y=>
 b (ay a 26) c d e f g h i j k l m n o p q r s t u v x y z A B C D E F G H I J K L M N O P Q S T U V W X Y)/\
 (∀ a:Nat->Bool,a 27=false->a 21=true->a 26=true->∀ c d e f g h i j k l m n o p q r s t u v x y z A B C D E F G H I J K L M N O P Q S T U V W X Y,b a c d e f g h i j k l m n o p q r s t u v x y z A B C D E F G H I J K L M N O P Q S T U V W X Y->
 RR (aq .rem 3 false false B v) Y fun u Y=>
 b (ay a 27) c d e f g h i j k l m n o p q r s t u v x y z A B C D E F G H I J K L M N O P Q S T U V W X Y)/\
 (∀ a:Nat->Bool,a 28=false->a 18=true->a 27=true->∀ c d e f g h i j k l m n o p q r s t u v x y z A B C D E F G H I J K L M N O P Q S T U V W X Y,b a c d e f g h i j k l m n o p q r s t u v x y z A B C D E F G H I J K L M N O P Q S T U V W X Y->
 RR (sOp (.indexAddr 22 (.const E) (.const u)) 0) Y fun t Y=>
 b (ay a 28) c d e f g h i j k l m n o p q r s t u v x y z A B C D E F G H I J K L M N O P Q S T U V W X Y)/\
 (∀ a:Nat->Bool,a 29=false->a 28=true->∀ c d e f g h i j k l m n o p q r s t u v x y z A B C D E F G H I J K L M N O P Q S T U V W X Y,b a c d e f g h i j k l m n o p q r s t u v x y z A B C D E F G H I J K L M N O P Q S T U V W X Y->
 RR (sOp (.load 5 (.const t)) 5) Y fun s Y=>
 b (ay a 29) c d e f g h i j k l m n o p q r s t u v x y z A B C D E F G H I J K L M N O P Q S T U V W X Y)/\
 (∀ a:Nat->Bool,a 30=false->a 29=true->∀ c d e f g h i j k l m n o p q r s t u v x y z A B C D E F G H I J K L M N O P Q S T U V W X Y,b a c d e f g h i j k l m n o p q r s t u v x y z A B C D E F G H I J K L M N O P Q S T U V W X Y->
 RR (sOp (.convert 5 3 (.const s)) 3) Y fun r Y=>
 b (ay a 30) c d e f g h i j k l m n o p q r s t u v x y z A B C D E F G H I J K L M N O P Q S T U V W X Y)/\
 (∀ a:Nat->Bool,a 31=false->a 30=true->∀ c d e f g h i j k l m n o p q r s t u v x y z A B C D E F G H I J K L M N O P Q S T U V W X Y,b a c d e f g h i j k l m n o p q r s t u v x y z A B C D E F G H I J K L M N O P Q S T U V W X Y->
 RR (aq .mul 3 false true r (.int .i64 1117)) Y fun q Y=>
 b (ay a 31) c d e f g h i j k l m n o p q r s t u v x y z A B C D E F G H I J K L M N O P Q S T U V W X Y)/\
 (∀ a:Nat->Bool,a 32=false->a 14=true->a 31=true->∀ c d e f g h i j k l m n o p q r s t u v x y z A B C D E F G H I J K L M N O P Q S T U V W X Y,b a c d e f g h i j k l m n o p q r s t u v x y z A B C D E F G H I J K L M N O P Q S T U V W X Y->
 RR (aq .add 3 false false I q) Y fun p Y=>
 b (ay a 32) c d e f g h i j k l m n o p q r s t u v x y z A B C D E F G H I J K L M N O P Q S T U V W X Y)/\
 (∀ c:Nat->Bool,c 33=false->∀ d e f g h i j k l m n o p q r s t u v x y z A B C D E F G H I J K L M N O P Q S T U V W X Y Z,b c d e f g h i j k l m n o p q r s t u v x y z A B C D E F G H I J K L M N O P Q S T U V W X Y Z->
 b (ay c 33) d e f g h i j k l m n o a q r s t u v x y z A B C D E F G H I J K L M N O P Q S T U V W X Y Z)/\
 (∀ a:Nat->Bool,a 34=false->a 33=true->∀ c d e f g h i j k l m n o p q r s t u v x y z A B C D E F G H I J K L M N O P Q S T U V W X Y,b a c d e f g h i j k l m n o p q r s t u v x y z A B C D E F G H I J K L M N O P Q S T U V W X Y->
 RR (aq .mul 3 false true o (.int .i64 29)) Y fun n Y=>
 b (ay a 34) c d e f g h i j k l m n o p q r s t u v x y z A B C D E F G H I J K L M N O P Q S T U V W X Y)/\
 (∀ a:Nat->Bool,a 35=false->a 32=true->a 34=true->∀ c d e f g h i j k l m n o p q r s t u v x y z A B C D E F G H I J K L M N O P Q S T U V W X Y,b a c d e f g h i j k l m n o p q r s t u v x y z A B C D E F G H I J K L M N O P Q S T U V W X Y->
 RR (aq .add 3 false false p n) Y fun m Y=>
 b (ay a 35) c d e f g h i j k l m n o p q r s t u v x y z A B C D E F G H I J K L M N O P Q S T U V W X Y)/\
 (∀ c:Nat->Bool,c 36=false->∀ d e f g h i j k l m n o p q r s t u v x y z A B C D E F G H I J K L M N O P Q S T U V W X Y Z,b c d e f g h i j k l m n o p q r s t u v x y z A B C D E F G H I J K L M N O P Q S T U V W X Y Z->
 b (ay c 36) d e f g h i j k l a n o p q r s t u v x y z A B C D E F G H I J K L M N O P Q S T U V W X Y Z)/\
 (∀ a:Nat->Bool,a 37=false->∀ c d e f g h i j k l m n o p q r s t u v x y z A B C D E F G H I J K L M N O P Q S T U V W X Y,b a c d e f g h i j k l m n o p q r s t u v x y z A B C D E F G H I J K L M N O P Q S T U V W X Y->
 b (ay a 37) c d e f g h i j p0 l m n o p q r s t u v x y z A B C D E F G H I J K L M N O P Q S T U V W X Y)/\
 (∀ a:Nat->Bool,a 38=false->a 37=true->∀ c d e f g h i j k l m n o p q r s t u v x y z A B C D E F G H I J K L M N O P Q S T U V W X Y,b a c d e f g h i j k l m n o p q r s t u v x y z A B C D E F G H I J K L M N O P Q S T U V W X Y->
 RR (sOp (.nilCheck (.const k)) 0) Y fun j Y=>
 b (ay a 38) c d e f g h i j k l m n o p q r s t u v x y z A B C D E F G H I J K L M N O P Q S T U V W X Y)/\
 (∀ a:Nat->Bool,a 39=false->a 38=true->∀ c d e f g h i j k l m n o p q r s t u v x y z A B C D E F G H I J K L M N O P Q S T U V W X Y,b a c d e f g h i j k l m n o p q r s t u v x y z A B C D E F G H I J K L M N O P Q S T U V W X Y->
 RR (sOp (.fieldAddr 78 (.const j) 0) 0) Y fun i Y=>
 b (ay a 39) c d e f g h i j k l m n o p q r s t u v x y z A B C D E F G H I J K L M N O P Q S T U V W X Y)/\
 (∀ a:Nat->Bool,a 40=false->a 39=true->∀ c d e f g h i j k l m n o p q r s t u v x y z A B C D E F G H I J K L M N O P Q S T U V W X Y,b a c d e f g h i j k l m n o p q r s t u v x y z A B C D E F G H I J K L M N O P Q S T U V W X Y->
 RR (sOp (.load 22 (.const i)) 22) Y fun h Y=>
 b (ay a 40) c d e f g h i j k l m n o p q r s t u v x y z A B C D E F G H I J K L M N O P Q S T U V W X Y)/\
 (∀ a:Nat->Bool,a 41=false->a 40=true->∀ c d e f g h i j k l m n o p q r s t u v x y z A B C D E F G H I J K L M N O P Q S T U V W X Y,b a c d e f g h i j k l m n o p q r s t u v x y z A B C D E F G H I J K L M N O P Q S T U V W X Y->
 RR (ar .len #[22] 3 [false] [h]) Y fun g Y=>
 b (ay a 41) c d e f g h i j k l m n o p q r s t u v x y z A B C D E F G H I J K L M N O P Q S T U V W X Y)/\
 (∀ a:Nat->Bool,a 42=false->a 36=true->a 41=true->∀ c d e f g h i j k l m n o p q r s t u v x y z A B C D E F G H I J K L M N O P Q S T U V W X Y,b a c d e f g h i j k l m n o p q r s t u v x y z A B C D E F G H I J K L M N O P Q S T U V W X Y->
 RR (aq .quo 3 false false l g) Y fun f Y=>
 b (ay a 42) c d e f g h i j k l m n o p q r s t u v x y z A B C D E F G H I J K L M N O P Q S T U V W X Y)/\
 (∀ a:Nat->Bool,a 43=false->a 42=true->∀ c d e f g h i j k l m n o p q r s t u v x y z A B C D E F G H I J K L M N O P Q S T U V W X Y,b a c d e f g h i j k l m n o p q r s t u v x y z A B C D E F G H I J K L M N O P Q S T U V W X Y->
 RR (aq .mul 3 false true f (.int .i64 53)) Y fun e Y=>
 b (ay a 43) c d e f g h i j k l m n o p q r s t u v x y z A B C D E F G H I J K L M N O P Q S T U V W X Y)/\
 (∀ a:Nat->Bool,a 44=false->a 35=true->a 43=true->∀ c d e f g h i j k l m n o p q r s t u v x y z A B C D E F G H I J K L M N O P Q S T U V W X Y,b a c d e f g h i j k l m n o p q r s t u v x y z A B C D E F G H I J K L M N O P Q S T U V W X Y->
 RR (aq .add 3 false false m e) Y fun d Y=>
 b (ay a 44) c d e f g h i j k l m n o p q r s t u v x y z A B C D E F G H I J K L M N O P Q S T U V W X Y)/\
 (∀ a:Nat->Bool,a 45=false->a 44=true->a 0=true->a 1=true->a 2=true->a 3=true->a 4=true->a 5=true->a 6=true->a 7=true->a 8=true->a 9=true->a 10=true->a 11=true->a 12=true->a 13=true->a 14=true->a 15=true->a 16=true->a 17=true->a 18=true->a 19=true->a 20=true->a 21=true->a 22=true->a 23=true->a 24=true->a 25=true->a 26=true->a 27=true->a 28=true->a 29=true->a 30=true->a 31=true->a 32=true->a 33=true->a 34=true->a 35=true->a 36=true->a 37=true->a 38=true->a 39=true->a 40=true->a 41=true->a 42=true->a 43=true->a 44=true->∀ c d e f g h i j k l m n o p q r s t u v x y z A B C D E F G H I J K L M N O P Q S T U V W X Y,b a c d e f g h i j k l m n o p q r s t u v x y z A B C D E F G H I J K L M N O P Q S T U V W X Y->
 b (ay a 45) d d e f g h i j k l m n o p q r s t u v x y z A B C D E F G H I J K L M N O P Q S T U V W X Y)/\
 True)/\
 ∀ a:Nat->Bool,a 45=true->a 44=true->a 43=true->a 42=true->a 41=true->a 40=true->a 39=true->a 38=true->a 37=true->a 36=true->a 35=true->a 34=true->a 33=true->a 32=true->a 31=true->a 30=true->a 29=true->a 28=true->a 27=true->a 26=true->a 25=true->a 24=true->a 23=true->a 22=true->a 21=true->a 20=true->a 19=true->a 18=true->a 17=true->a 16=true->a 15=true->a 14=true->a 13=true->a 12=true->a 11=true->a 10=true->a 9=true->a 8=true->a 7=true->a 6=true->a 5=true->a 4=true->a 3=true->a 2=true->a 1=true->a 0=true->∀ c d e f g h i j k l m n o p q r s t u v x y z A B C D E F G H I J K L M N O P Q S T U V W X Y,b a c d e f g h i j k l m n o p q r s t u v x y z A B C D E F G H I J K L M N O P Q S T U V W X Y->
 RR (aq .quo 3 false true c (.int .i64 64)) Y fun a b=>
 RR (aq .xor 3 false false c a) b fun a b=>
 RR (aq .rem 3 false false a p1) b fun a b=>
 R (.returned a) b))))
theorem re {p0 p1:Value} {w:World} {R:Ending->World->Prop} (h:nf p0 p1 w R):Calls Tryz.prog 69 #[p0,p1] w R:=
  aK (.seq none .leaf (.seq none .leaf (.seq none (.seq (some [24]) .leaf .leaf) .leaf))) [p0,p1] be Tryz.func69 (by kernel_rfl) (by kernel_rfl) h


/- loop.example/prologserver/spec.l16Facts : function 70 -/
def qs (p0:Value) (w:World) (R:Ending->World->Prop):Prop:=
 (∃ (a:Value->World->Prop) (b:Value->World->Nat),a (.int .i64 0) w/\
 ∀ c _ _ _ _ _ _ _ _ _ _ _ _ _ _ _ _ _ _ _ _ _ _ _ _ _ _ _ _ _ _:Value,∀ d:World,a c d->
 RR (ar .len #[23] 3 [false] [p0]) d fun e f=>
 RR (aq .lss 3 false false c e) f fun e f=>
 CondV e (
 (∃ e:Value->World->Prop,(
 RR (sOp (.indexAddr 23 (.const p0) (.const c)) 0) f fun a b=>
 RR (sOp (.load 25 (.const a)) 25) b fun a b=>
 RR (aH (.func (.func 84) #[] #[]) [a]) b fun a b=>
 RR (sOp (.unOp .not 4 (.const a)) 4) b fun a b=>
 ((fun d:VW=>aj a false (
 RR (sOp (.indexAddr 23 (.const p0) (.const c)) 0) b fun b c=>
 RR (sOp (.load 25 (.const b)) 25) c fun b c=>
 RR (aH (.func (.func 97) #[] #[]) [b]) c fun b c=>
 RR (sOp (.unOp .not 4 (.const b)) 4) c fun b c=>
 RR (sOp (.pick (.const a) (.const (.bool true)) (.const b)) 4) c fun a b=>d a b) (
 RR (sOp (.pick (.const a) (.const (.bool true)) (.const undef)) 4) b fun a b=>d a b)) fun a b=>
 aj a false (
 RR (sOp (.indexAddr 23 (.const p0) (.const c)) 0) b fun b c=>
 RR (sOp (.load 25 (.const b)) 25) c fun b c=>
 RR (aH (.func (.func 98) #[] #[]) [(Value.slice none 0 0),b]) c fun b c=>
 RR (ar .len #[71] 3 [false] [b]) c fun b c=>
 RR (aq .gtr 3 false true b (.int .i64 0)) c fun b c=>
 RR (sOp (.pick (.const a) (.const (.bool true)) (.const b)) 4) c fun a b=>
 e a b) (
 RR (sOp (.pick (.const a) (.const (.bool true)) (.const undef)) 4) b fun a b=>
 e a b)))/\
 ∀ f _ _ _ _ _ _ _ _ _ _ _ _ _ _ _ _ _ _ _ _ _ _:Value,∀ g:World,e f g->
 CondV f (
 R (.returned (.bool false)) g) (
 RR (aq .add 3 false true c (.int .i64 1)) g fun e f=>
 a e f/\b e f<b c d))) (
 RR (ar .len #[23] 3 [false] [p0]) f fun a b=>
 RR (aq .leq 3 false true a (.int .i64 60)) b fun a b=>
 R (.returned a) b))
theorem uW {p0:Value} {w:World} {R:Ending->World->Prop} (h:qs p0 w R):Calls Tryz.prog 70 #[p0] w R:=
  aK (.seq none .leaf (.seq none (.seq none .leaf (.one (.loop [3] (.seq none .leaf (.seq none (.one (.seq (some [32]) .leaf .leaf)) .leaf))))) .leaf)) [p0] be Tryz.func70 (by kernel_rfl) (by kernel_rfl) h


/- loop.example/prologserver/spec.l16Body : function 71 -/
def mC (p0 p1 p2 p3 p4:Value) (w:World) (R:Ending->World->Prop):Prop:=
 RR (sOp (.box 39 (.const p1)) 0) w fun a b=>
 RR (ar .len #[23] 3 [false] [p0]) b fun b c=>
 RR (aq .gtr 3 false true b (.int .i64 60)) c fun b c=>
 CondV b (
 R (.returned p0) c) (
 RR (sOp (.fieldAddr 39 (.const a) 1) 0) c fun b c=>
 RR (sOp (.load 23 (.const b)) 23) c fun b c=>
 RR (ar .len #[23] 3 [false] [b]) c fun b c=>
 RR (aq .eql 3 false false p2 b) c fun b c=>
 CondV b (
 RR (sOp (.fieldAddr 39 (.const a) 0) 0) c fun a b=>
 RR (sOp (.load 25 (.const a)) 25) b fun a b=>
 RR (aH (.func (.func 116) #[] #[]) [a,p4]) b fun a b=>
 RR (aH (.func (.func 115) #[] #[]) [p0,a]) b fun a b=>
 R (.returned a) b) (
 (∃ (b:Value->Value->World->Prop) (d:Value->Value->World->Nat),b (.int .i64 0) p0 c/\
 ∀ c _ _ e _ _ _ _ _ _ _ _ f g h i j k l m n o p q r s t u _ _ _ _:Value,∀ v:World,b c e v->
 RR (ar .len #[23] 3 [false] [p3]) v fun x y=>
 RR (aq .lss 3 false false c x) y fun x y=>
 CondV x (
 (∃ x:Value->World->Prop,(
 (∃ b:(Nat->Bool)->Value->Value->Value->Value->Value->Value->Value->Value->Value->Value->Value->Value->Value->Value->Value->Value->World->Prop,b (fun _=>false) f g h i j k l m n o p q r s t u { y with drawn:=y.drawn+1 }/\(
 (∀ c:Nat->Bool,c 0=false->∀ d e f g h i j k l m n o p q r s t,b c d e f g h i j k l m n o p q r s t->
 RR (sOp (.fieldAddr 39 (.const a) 1) 0) t fun a s=>
 b (ay c 0) d e f g h i j k l m n o p q r a s)/\
 (∀ a:Nat->Bool,a 1=false->a 0=true->∀ c d e f g h i j k l m n o p q r s,b a c d e f g h i j k l m n o p q r s->
 RR (sOp (.load 23 (.const r)) 23) s fun q s=>
 b (ay a 1) c d e f g h i j k l m n o p q r s)/\
 (∀ a:Nat->Bool,a 2=false->∀ c d e f g h i j k l m n o p q r s,b a c d e f g h i j k l m n o p q r s->
 b (ay a 2) c d e f g h i j k l m n o p2 q r s)/\
 (∀ a:Nat->Bool,a 3=false->a 1=true->a 2=true->∀ c d e f g h i j k l m n o p q r s,b a c d e f g h i j k l m n o p q r s->
 RR (sOp (.indexAddr 23 (.const q) (.const p)) 0) s fun o s=>
 b (ay a 3) c d e f g h i j k l m n o p q r s)/\
 (∀ a:Nat->Bool,a 4=false->a 3=true->∀ c d e f g h i j k l m n o p q r s,b a c d e f g h i j k l m n o p q r s->
 RR (sOp (.load 25 (.const o)) 25) s fun n s=>
 b (ay a 4) c d e f g h i j k l m n o p q r s)/\
 (∀ a:Nat->Bool,a 5=false->∀ c d e f g h i j k l m n o p q r s,b a c d e f g h i j k l m n o p q r s->
 b (ay a 5) c d e f g h i j k l p3 n o p q r s)/\
 (∀ a:Nat->Bool,a 6=false->∀ d e f g h i j k l m n o p q r s t,b a d e f g h i j k l m n o p q r s t->
 b (ay a 6) d e f g h i j k l c n o p q r s t)/\
 (∀ a:Nat->Bool,a 7=false->a 5=true->a 6=true->∀ c d e f g h i j k l m n o p q r s,b a c d e f g h i j k l m n o p q r s->
 RR (sOp (.indexAddr 23 (.const m) (.const l)) 0) s fun k s=>
 b (ay a 7) c d e f g h i j k l m n o p q r s)/\
 (∀ a:Nat->Bool,a 8=false->a 7=true->∀ c d e f g h i j k l m n o p q r s,b a c d e f g h i j k l m n o p q r s->
 RR (sOp (.load 25 (.const k)) 25) s fun j s=>
 b (ay a 8) c d e f g h i j k l m n o p q r s)/\
 (∀ a:Nat->Bool,a 9=false->∀ c d e f g h i j k l m n o p q r s,b a c d e f g h i j k l m n o p q r s->
 b (ay a 9) c d e f g h p4 j k l m n o p q r s)/\
 (∀ a:Nat->Bool,a 10=false->a 4=true->a 8=true->a 9=true->∀ c d e f g h i j k l m n o p q r s,b a c d e f g h i j k l m n o p q r s->
 RR (aH (.func (.func 117) #[] #[]) [n,j,i]) s fun h s=>
 b (ay a 10) c d e f g h i j k l m n o p q r s)/\
 (∀ a:Nat->Bool,a 11=false->a 10=true->∀ c d e f g h i j k l m n o p q r s,b a c d e f g h i j k l m n o p q r s->
 b (ay a 11) c d e f h h i j k l m n o p q r s)/\
 (∀ a:Nat->Bool,a 12=false->a 11=true->∀ c d e f g h i j k l m n o p q r s,b a c d e f g h i j k l m n o p q r s->
 RR (sOp (.extract (.const g) 0) 23) s fun f s=>
 b (ay a 12) c d e f g h i j k l m n o p q r s)/\
 (∀ a:Nat->Bool,a 13=false->a 11=true->∀ c d e f g h i j k l m n o p q r s,b a c d e f g h i j k l m n o p q r s->
 RR (sOp (.extract (.const g) 1) 4) s fun e s=>
 b (ay a 13) c d e f g h i j k l m n o p q r s)/\
 (∀ a:Nat->Bool,a 14=false->a 12=true->a 10=true->a 0=true->a 1=true->a 2=true->a 3=true->a 4=true->a 5=true->a 6=true->a 7=true->a 8=true->a 9=true->a 10=true->a 11=true->a 12=true->∀ c d e f g h i j k l m n o p q r s,b a c d e f g h i j k l m n o p q r s->
 b (ay a 14) c f e f g h i j k l m n o p q r s)/\
 (∀ a:Nat->Bool,a 15=false->a 13=true->a 14=true->a 0=true->a 1=true->a 2=true->a 3=true->a 4=true->a 5=true->a 6=true->a 7=true->a 8=true->a 9=true->a 10=true->a 11=true->a 12=true->a 13=true->a 14=true->∀ c d e f g h i j k l m n o p q r s,b a c d e f g h i j k l m n o p q r s->
 b (ay a 15) e d e f g h i j k l m n o p q r s)/\
 True)/\
 ∀ c:Nat->Bool,c 15=true->c 14=true->c 13=true->c 12=true->c 11=true->c 10=true->c 9=true->c 8=true->c 7=true->c 6=true->c 5=true->c 4=true->c 3=true->c 2=true->c 1=true->c 0=true->∀ d f g h i j k l m n o p q r s t u,b c d f g h i j k l m n o p q r s t u->
 CondV d (
 RR (sOp (.load 39 (.const a)) 39) u fun a b=>
 RR (aq .add 3 false true p2 (.int .i64 1)) b fun b c=>
 RR (aH (.func (.func 71) #[] #[]) [e,a,b,p3,f]) c fun a b=>
 x a b) (
 x e u)))/\
 ∀ a _ _ _ _ _ _ _ _ _ _ _ _ _ _ _ _ _ _ _ _ _ _ _ _:Value,∀ f:World,x a f->
 RR (aq .add 3 false true c (.int .i64 1)) f fun f g=>
 b f a g/\d f a g<d c e v)) (
 R (.returned e) y))))
theorem ng {p0 p1 p2 p3 p4:Value} {w:World} {R:Ending->World->Prop} (h:mC p0 p1 p2 p3 p4 w R):Calls Tryz.prog 71 #[p0,p1,p2,p3,p4] w R:=
  aK (.seq none .leaf (.seq none .leaf (.seq none .leaf (.seq none (.seq none .leaf (.one (.loop [11,0] (.seq none .leaf (.seq (some [0]) .leaf .leaf))))) .leaf)))) [p0,p1,p2,p3,p4] be Tryz.func71 (by kernel_rfl) (by kernel_rfl) h


/- loop.example/prologserver/spec.l16Has : function 72 -/
def wu (p0 p1:Value) (w:World) (R:Ending->World->Prop):Prop:=
 RR (sOp (.box 25 (.const p1)) 0) w fun a b=>
 (∃ (c:Value->World->Prop) (d:Value->World->Nat),c (.int .i64 0) b/\
 ∀ b _ _ _ e f g h i j _ _ _ _:Value,∀ k:World,c b k->
 RR (ar .len #[23] 3 [false] [p0]) k fun l m=>
 RR (aq .lss 3 false false b l) m fun l m=>
 CondV l (
 (∃ l:(Nat->Bool)->Value->Value->Value->Value->Value->Value->World->Prop,l (fun _=>false) e f g h i j { m with drawn:=m.drawn+1 }/\(
 (∀ a:Nat->Bool,a 0=false->∀ b c d e f g h,l a b c d e f g h->
 l (ay a 0) b c d e f p0 h)/\
 (∀ a:Nat->Bool,a 1=false->∀ c d e f g h i,l a c d e f g h i->
 l (ay a 1) c d e f b h i)/\
 (∀ a:Nat->Bool,a 2=false->a 0=true->a 1=true->∀ b c d e f g h,l a b c d e f g h->
 RR (sOp (.indexAddr 23 (.const g) (.const f)) 0) h fun e h=>
 l (ay a 2) b c d e f g h)/\
 (∀ a:Nat->Bool,a 3=false->a 2=true->∀ b c d e f g h,l a b c d e f g h->
 RR (sOp (.load 25 (.const e)) 25) h fun d h=>
 l (ay a 3) b c d e f g h)/\
 (∀ b:Nat->Bool,b 4=false->∀ c d e f g h i,l b c d e f g h i->
 RR (sOp (.load 25 (.const a)) 25) i fun a d=>
 l (ay b 4) c a e f g h d)/\
 (∀ a:Nat->Bool,a 5=false->a 3=true->a 4=true->∀ b c d e f g h,l a b c d e f g h->
 RR (aH (.func (.func 118) #[] #[]) [d,c]) h fun b h=>
 l (ay a 5) b c d e f g h)/\
 True)/\
 ∀ a:Nat->Bool,a 5=true->a 4=true->a 3=true->a 2=true->a 1=true->a 0=true->∀ e f g h i j m,l a e f g h i j m->
 CondV e (
 R (.returned (.bool true)) m) (
 RR (aq .add 3 false true b (.int .i64 1)) m fun a e=>
 c a e/\d a e<d b k))) (
 R (.returned (.bool false)) m))
theorem As {p0 p1:Value} {w:World} {R:Ending->World->Prop} (h:wu p0 p1 w R):Calls Tryz.prog 72 #[p0,p1] w R:=
  aK (.seq none .leaf (.seq none (.seq none .leaf (.one (.loop [5] .leaf))) .leaf)) [p0,p1] be Tryz.func72 (by kernel_rfl) (by kernel_rfl) h


/- loop.example/prologserver/spec.l16Texts : function 73 -/
def qw (w:World) (R:Ending->World->Prop):Prop:=
 RR (aS 67 6 [(0,(.string ⟨#[101,40,97,44,98,41,46,10,101,40,98,44,99,41,46,10,101,40,99,44,97,41,46,10,116,40,65,44,66,41,58,45,101,40,65,44,66,41,46,10,116,40,65,44,66,41,58,45,101,40,65,44,67,41,44,116,40,67,44,66,41,46,10]⟩)),(1,(.string ⟨#[112,40,49,41,46,10,112,40,50,41,46,10,113,40,65,44,66,41,58,45,112,40,65,41,44,112,40,66,41,46,10,114,40,65,41,58,45,113,40,65,44,65,41,46,10]⟩)),(2,(.string ⟨#[111,107,46,10,121,101,115,58,45,111,107,46,10,110,111,58,45,110,101,118,101,114,40,49,41,46,10]⟩)),(3,(.string ⟨#[117,112,40,97,44,98,41,46,10,117,112,40,98,44,99,41,46,10,115,103,40,65,44,66,41,58,45,117,112,40,65,44,67,41,44,117,112,40,66,44,67,41,46,10,115,103,40,65,44,66,41,58,45,117,112,40,65,44,67,41,44,115,103,40,67,44,68,41,44,117,112,40,66,44,68,41,46,10]⟩)),(4,(.string ⟨#[110,40,49,41,46,10,110,40,65,41,58,45,110,40,65,41,46,10,109,40,65,41,58,45,110,40,65,41,44,111,40,65,41,46,10,111,40,49,41,46,10]⟩)),(5,(.string ⟨#[101,40,97,44,98,41,46,10,101,40,98,44,99,41,46,10,116,40,65,44,66,41,58,45,101,40,65,44,66,41,46,10,116,40,65,44,66,41,58,45,116,40,65,44,67,41,44,116,40,67,44,66,41,46,10]⟩))]) w fun a b=>
 R (.returned a) b
theorem vh {w:World} {R:Ending->World->Prop} (h:qw w R):Calls Tryz.prog 73 #[] w R:=
  aK .leaf [] be Tryz.func73 (by kernel_rfl) (by kernel_rfl) h


/- loop.example/prologserver/spec.ParseProgram : function 74 -/
def kS (p0:Value) (w:World) (R:Ending->World->Prop):Prop:=
 RR (aS 32 0 []) w fun a b=>
 RR (aH (.func (.func 119) #[] #[]) [p0,(.int .u8 10)]) b fun b c=>
 (∃ d:Value->World->Prop,(
 RR (ar .len #[67] 3 [false] [b]) c fun a c=>
 RR (aq .gtr 3 false true a (.int .i64 21)) c fun a c=>
 aj a false (
 RR (ar .len #[67] 3 [false] [b]) c fun c e=>
 RR (aq .sub 3 false true c (.int .i64 1)) e fun c e=>
 RR (sOp (.indexAddr 67 (.const b) (.const c)) 0) e fun b c=>
 RR (sOp (.load 9 (.const b)) 9) c fun b c=>
 RR (aq .neq 9 false true b (.string ⟨#[]⟩)) c fun b c=>
 RR (sOp (.pick (.const a) (.const (.bool true)) (.const b)) 4) c fun a b=>
 d a b) (
 RR (sOp (.pick (.const a) (.const (.bool true)) (.const undef)) 4) c fun a b=>
 d a b))/\
 ∀ c _ _ _ _ _ _ _ _ _ _ _:Value,∀ e:World,d c e->
 CondV c (
 R (.returned (.tuple #[a,(.bool false)])) e) (
 (∃ (c:Value->Value->World->Prop) (d:Value->Value->World->Nat),c (.int .i64 0) a e/\
 ∀ a _ _ e _ _ _ _ _ _ _ _ _ _ _ _ _ _ _ _ _ _ _ _ _ _ _ _:Value,∀ f:World,c a e f->
 RR (aq .add 3 false true a (.int .i64 1)) f fun g h=>
 RR (ar .len #[67] 3 [false] [b]) h fun h i=>
 RR (aq .lss 3 false false g h) i fun g h=>
 CondV g (
 RR (sOp (.indexAddr 67 (.const b) (.const a)) 0) h fun b g=>
 RR (sOp (.load 9 (.const b)) 9) g fun b g=>
 RR (aH (.func (.func 120) #[] #[]) [b]) g fun b g=>
 RR (sOp (.extract (.const b) 0) 39) g fun g h=>
 RR (sOp (.extract (.const b) 1) 4) h fun b h=>
 RR (sOp (.alloc 39) 0) h fun h i=>
 RR (sOp (.store 39 (.const h) (.const g)) 0) i fun _ g=>
 RR (sOp (.unOp .not 4 (.const b)) 4) g fun b g=>
 CondV b (
 RR (aS 32 0 []) g fun a b=>
 R (.returned (.tuple #[a,(.bool false)])) b) (
 RR (sOp (.load 39 (.const h)) 39) g fun b g=>
 RR (aS 32 1 [(0,b)]) g fun b g=>
 RR (ar .append #[32,32] 32 [false,false] [e,b]) g fun b g=>
 RR (aq .add 3 false true a (.int .i64 1)) g fun g h=>
 c g b h/\d g b h<d a e f)) (
 R (.returned (.tuple #[e,(.bool true)])) h))))
theorem oO {p0:Value} {w:World} {R:Ending->World->Prop} (h:kS p0 w R):Calls Tryz.prog 74 #[p0] w R:=
  aK (.seq none .leaf (.seq none .leaf (.seq none .leaf (.seq none (.seq (some [23]) .leaf .leaf) (.seq none (.seq none .leaf (.one (.loop [6,4] .leaf))) .leaf))))) [p0] be Tryz.func74 (by kernel_rfl) (by kernel_rfl) h


/- loop.example/prologserver/spec.l4Program : function 75 -/
def ol (p0:Value) (w:World) (R:Ending->World->Prop):Prop:=
 RR (aH (.func (.func 121) #[] #[]) []) w fun a b=>
 RR (ar .len #[67] 3 [false] [a]) b fun b c=>
 RR (aH (.func (.func 69) #[] #[]) [p0,b]) c fun b c=>
 RR (sOp (.indexAddr 67 (.const a) (.const b)) 0) c fun a b=>
 RR (sOp (.load 9 (.const a)) 9) b fun a b=>
 RR (aH (.func (.func 74) #[] #[]) [a]) b fun a b=>
 RR (sOp (.extract (.const a) 0) 32) b fun b c=>
 RR (sOp (.extract (.const a) 1) 4) c fun _ a=>
 R (.returned b) a
theorem s7 {p0:Value} {w:World} {R:Ending->World->Prop} (h:ol p0 w R):Calls Tryz.prog 75 #[p0] w R:=
  aK .leaf [p0] be Tryz.func75 (by kernel_rfl) (by kernel_rfl) h


/- (*loop.example/prologserver/spec.l18Rd).of : function 76 -/
def qx (p0 p1:Value) (w:World) (R:Ending->World->Prop):Prop:=
 RR (ar .len #[67] 3 [false] [p1]) w fun a b=>
 RR (aH (.func (.func 69) #[] #[]) [p0,a]) b fun a b=>
 RR (sOp (.indexAddr 67 (.const p1) (.const a)) 0) b fun a b=>
 RR (sOp (.load 9 (.const a)) 9) b fun a b=>
 R (.returned a) b
theorem vo {p0 p1:Value} {w:World} {R:Ending->World->Prop} (h:qx p0 p1 w R):Calls Tryz.prog 76 #[p0,p1] w R:=
  aK .leaf [p0,p1] be Tryz.func76 (by kernel_rfl) (by kernel_rfl) h


/- loop.example/prologserver/spec.l1Int : function 77 -/
def y7 (p0:Value) (w:World) (R:Ending->World->Prop):Prop:=
 RR (sOp (.alloc 25) 0) w fun a b=>
 RR (dy 25 [(0,(.int .i64 2)),(1,p0)]) b fun b c=>
 RR (sOp (.store 25 (.const a) (.const b)) 0) c fun _ b=>
 (bd Tryz.prog 25 a b fun a=>R (.returned a) b)
theorem BN {p0:Value} {w:World} {R:Ending->World->Prop} (h:y7 p0 w R):Calls Tryz.prog 77 #[p0] w R:=
  aK .leaf [p0] be Tryz.func77 (by kernel_rfl) (by kernel_rfl) h


/- loop.example/prologserver/spec.l1Struct : function 78 -/
def qG (p0 p1:Value) (w:World) (R:Ending->World->Prop):Prop:=
 RR (sOp (.alloc 25) 0) w fun a b=>
 RR (aS 23 0 []) b fun b c=>
 RR (ar .append #[23,23] 23 [false,false] [b,p1]) c fun b c=>
 RR (dy 25 [(0,(.int .i64 3)),(2,p0),(3,b)]) c fun b c=>
 RR (sOp (.store 25 (.const a) (.const b)) 0) c fun _ b=>
 (bd Tryz.prog 25 a b fun a=>R (.returned a) b)
theorem uY {p0 p1:Value} {w:World} {R:Ending->World->Prop} (h:qG p0 p1 w R):Calls Tryz.prog 78 #[p0,p1] w R:=
  aK .leaf [p0,p1] be Tryz.func78 (by kernel_rfl) (by kernel_rfl) h


/- loop.example/prologserver/spec.l16Goals : function 79 -/
def qI (w:World) (R:Ending->World->Prop):Prop:=
 RR (aS 67 7 [(0,(.string ⟨#[116,40,65,44,66,41]⟩)),(1,(.string ⟨#[113,40,65,44,66,41]⟩)),(2,(.string ⟨#[121,101,115]⟩)),(3,(.string ⟨#[115,103,40,65,44,66,41]⟩)),(4,(.string ⟨#[109,40,65,41]⟩)),(5,(.string ⟨#[116,40,97,44,66,41]⟩)),(6,(.string ⟨#[101,40,65,44,98,41]⟩))]) w fun a b=>
 R (.returned a) b
theorem vB {w:World} {R:Ending->World->Prop} (h:qI w R):Calls Tryz.prog 79 #[] w R:=
  aK .leaf [] be Tryz.func79 (by kernel_rfl) (by kernel_rfl) h


/- loop.example/prologserver/spec.ParseTerm : function 80 -/
def px (p0:Value) (w:World) (R:Ending->World->Prop):Prop:=
 RR (sOp (.alloc 25) 0) w fun a b=>
 RR (aH (.func (.func 122) #[] #[]) [p0,(.int .i64 0),(.int .i64 30)]) b fun b c=>
 RR (sOp (.extract (.const b) 0) 25) c fun c d=>
 RR (sOp (.extract (.const b) 1) 3) d fun b d=>
 RR (sOp (.alloc 25) 0) d fun d e=>
 RR (sOp (.store 25 (.const d) (.const c)) 0) e fun _ c=>
 (∃ e:Value->World->Prop,(
 RR (aq .eql 9 false true p0 (.string ⟨#[]⟩)) c fun a c=>
 ((fun d:VW=>aj a false (
 RR (ar .len #[9] 3 [false] [p0]) c fun c e=>
 RR (aq .neq 3 false false b c) e fun b c=>
 RR (sOp (.pick (.const a) (.const (.bool true)) (.const b)) 4) c fun a b=>d a b) (
 RR (sOp (.pick (.const a) (.const (.bool true)) (.const undef)) 4) c fun a b=>d a b)) fun a b=>
 aj a false (
 RR (sOp (.load 25 (.const d)) 25) b fun b c=>
 RR (aH (.func (.func 123) #[] #[]) [b]) c fun b c=>
 RR (aq .neq 9 false false b p0) c fun b c=>
 RR (sOp (.pick (.const a) (.const (.bool true)) (.const b)) 4) c fun a b=>
 e a b) (
 RR (sOp (.pick (.const a) (.const (.bool true)) (.const undef)) 4) b fun a b=>
 e a b)))/\
 ∀ b _ _ _ _ _ _ _ _ _ _ _ _ _:Value,∀ c:World,e b c->
 CondV b (
 RR (dy 25 []) c fun b c=>
 RR (sOp (.store 25 (.const a) (.const b)) 0) c fun _ b=>
 (bd Tryz.prog 25 a b fun a=>R (.returned (.tuple #[a,(.bool false)])) b)) (
 RR (sOp (.load 25 (.const d)) 25) c fun b c=>
 RR (sOp (.store 25 (.const a) (.const b)) 0) c fun _ b=>
 (bd Tryz.prog 25 a b fun a=>R (.returned (.tuple #[a,(.bool true)])) b)))
theorem tf {p0:Value} {w:World} {R:Ending->World->Prop} (h:px p0 w R):Calls Tryz.prog 80 #[p0] w R:=
  aK (.seq none .leaf (.seq none .leaf (.seq none (.seq (some [24]) .leaf .leaf) .leaf))) [p0] be Tryz.func80 (by kernel_rfl) (by kernel_rfl) h


/- loop.example/prologserver/impl.own : function 81 -/
def GI (p0:Value) (w:World) (R:Ending->World->Prop):Prop:=
 RR (sOp (.box 25 (.const p0)) 0) w fun a b=>
 RR (sOp (.alloc 25) 0) b fun b c=>
 RR (sOp (.fieldAddr 25 (.const a) 3) 0) c fun c d=>
 RR (sOp (.load 23 (.const c)) 23) d fun c d=>
 RR (aH (.func (.func 36) #[] #[]) [c]) d fun c d=>
 RR (sOp (.fieldAddr 25 (.const a) 3) 0) d fun d e=>
 RR (sOp (.store 23 (.const d) (.const c)) 0) e fun _ c=>
 RR (sOp (.load 25 (.const a)) 25) c fun a c=>
 RR (sOp (.store 25 (.const b) (.const a)) 0) c fun _ a=>
 (bd Tryz.prog 25 b a fun b=>R (.returned b) a)
theorem Hh {p0:Value} {w:World} {R:Ending->World->Prop} (h:GI p0 w R):Calls Tryz.prog 81 #[p0] w R:=
  aK .leaf [p0] be Tryz.func81 (by kernel_rfl) (by kernel_rfl) h


/- slices.IndexFunc[[]loop.example/prologserver/impl.Term,loop.example/prologserver/impl.Term] : function 82 -/
def jj (p0 p1:Value) (w:World) (R:Ending->World->Prop):Prop:=
 RR (ar .len #[23] 3 [false] [p0]) w fun a b=>
 (∃ (c:Value->World->Prop) (d:Value->World->Nat),c (.int .i64 0) b/\
 ∀ b _ _ _ _ _ _ _ _ _ _ _ _:Value,∀ e:World,c b e->
 RR (aq .lss 3 false false b a) e fun a f=>
 CondV a (
 RR (sOp (.indexAddr 23 (.const p0) (.const b)) 0) f fun a f=>
 RR (sOp (.load 25 (.const a)) 25) f fun a f=>
 RR (aH p1 [a]) f fun a f=>
 CondV a (
 R (.returned b) f) (
 RR (aq .add 3 false true b (.int .i64 1)) f fun a f=>
 c a f/\d a f<d b e)) (
 R (.returned (.int .i64 (-1))) f))
theorem mA {p0 p1:Value} {w:World} {R:Ending->World->Prop} (h:jj p0 p1 w R):Calls Tryz.prog 82 #[p0,p1] w R:=
  aK (.seq none .leaf (.seq none (.seq none .leaf (.one (.loop [8] .leaf))) .leaf)) [p0,p1] be Tryz.func82 (by kernel_rfl) (by kernel_rfl) h


/- slices.EqualFunc[[]loop.example/prologserver/impl.Term,[]loop.example/prologserver/impl.Term,loop.example/prologserver/impl.Term,loop.example/prologserver/impl.Term] : function 83 -/
def jn (p0 p1 p2:Value) (w:World) (R:Ending->World->Prop):Prop:=
 RR (ar .len #[23] 3 [false] [p0]) w fun a b=>
 RR (ar .len #[23] 3 [false] [p1]) b fun b c=>
 RR (aq .neq 3 false false a b) c fun a b=>
 CondV a (
 R (.returned (.bool false)) b) (
 RR (ar .len #[23] 3 [false] [p0]) b fun a b=>
 (∃ (c:Value->World->Prop) (d:Value->World->Nat),c (.int .i64 0) b/\
 ∀ b _ _ _ _ _ _ _ _ _ _ _ _ _ _ _ _ _ _:Value,∀ e:World,c b e->
 RR (aq .lss 3 false false b a) e fun a f=>
 CondV a (
 RR (sOp (.indexAddr 23 (.const p0) (.const b)) 0) f fun a f=>
 RR (sOp (.load 25 (.const a)) 25) f fun a f=>
 RR (sOp (.alloc 25) 0) f fun f g=>
 RR (sOp (.store 25 (.const f) (.const a)) 0) g fun _ a=>
 RR (sOp (.indexAddr 23 (.const p1) (.const b)) 0) a fun a g=>
 RR (sOp (.load 25 (.const a)) 25) g fun a g=>
 RR (sOp (.alloc 25) 0) g fun g h=>
 RR (sOp (.store 25 (.const g) (.const a)) 0) h fun _ a=>
 RR (sOp (.load 25 (.const f)) 25) a fun a f=>
 RR (sOp (.load 25 (.const g)) 25) f fun f g=>
 RR (aH p2 [a,f]) g fun a f=>
 RR (sOp (.unOp .not 4 (.const a)) 4) f fun a f=>
 CondV a (
 R (.returned (.bool false)) f) (
 RR (aq .add 3 false true b (.int .i64 1)) f fun a f=>
 c a f/\d a f<d b e)) (
 R (.returned (.bool true)) f)))
theorem mQ {p0 p1 p2:Value} {w:World} {R:Ending->World->Prop} (h:jn p0 p1 p2 w R):Calls Tryz.prog 83 #[p0,p1,p2] w R:=
  aK (.seq none .leaf (.seq none .leaf (.seq none (.seq none .leaf (.one (.loop [17] .leaf))) .leaf))) [p0,p1,p2] be Tryz.func83 (by kernel_rfl) (by kernel_rfl) h


/- loop.example/prologserver/spec.TermValid : function 84 -/
def oX (p0:Value) (w:World) (R:Ending->World->Prop):Prop:=
 RR (sOp (.box 25 (.const p0)) 0) w fun a b=>
 RR (sOp (.load 25 (.const a)) 25) b fun b c=>
 RR (aH (.func (.func 124) #[] #[]) [b,(.int .i64 30)]) c fun b c=>
 aj b true (
 RR (sOp (.load 25 (.const a)) 25) c fun a c=>
 RR (aH (.func (.func 125) #[] #[]) [a,(.int .i64 120)]) c fun a c=>
 RR (aq .leq 3 false true a (.int .i64 120)) c fun a c=>
 RR (sOp (.pick (.const b) (.const a) (.const (.bool false))) 4) c fun a b=>
 R (.returned a) b) (
 RR (sOp (.pick (.const b) (.const undef) (.const (.bool false))) 4) c fun a b=>
 R (.returned a) b)
theorem r8 {p0:Value} {w:World} {R:Ending->World->Prop} (h:oX p0 w R):Calls Tryz.prog 84 #[p0] w R:=
  aK .leaf [p0] be Tryz.func84 (by kernel_rfl) (by kernel_rfl) h


/- loop.example/prologserver/spec.l3Match : function 85 -/
def tx (p0 p1 p2:Value) (w:World) (R:Ending->World->Prop):Prop:=
 RR (sOp (.box 25 (.const p0)) 0) w fun a b=>
 RR (sOp (.box 25 (.const p1)) 0) b fun b c=>
 RR (sOp (.fieldAddr 25 (.const a) 0) 0) c fun c d=>
 RR (sOp (.load 3 (.const c)) 3) d fun c d=>
 RR (aq .eql 3 false true c (.int .i64 1)) d fun c d=>
 CondV c (
 RR (sOp (.fieldAddr 25 (.const a) 1) 0) d fun c d=>
 RR (sOp (.load 3 (.const c)) 3) d fun c d=>
 RR (sOp (.indexAddr 23 (.const p2) (.const c)) 0) d fun c d=>
 RR (sOp (.fieldAddr 25 (.const c) 0) 0) d fun c d=>
 RR (sOp (.load 3 (.const c)) 3) d fun c d=>
 RR (aq .neq 3 false true c (.int .i64 0)) d fun c d=>
 CondV c (
 (∃ c:(Nat->Bool)->Value->Value->Value->Value->Value->Value->Value->Value->World->Prop,c (fun _=>false) (.bool false) undef undef undef undef undef undef undef { d with drawn:=d.drawn+1 }/\(
 (∀ a:Nat->Bool,a 0=false->∀ b d e f g h i j k,c a b d e f g h i j k->
 c (ay a 0) b d e f g h i p2 k)/\
 (∀ b:Nat->Bool,b 1=false->∀ d e f g h i j k l,c b d e f g h i j k l->
 RR (sOp (.fieldAddr 25 (.const a) 1) 0) l fun a j=>
 c (ay b 1) d e f g h i a k j)/\
 (∀ a:Nat->Bool,a 2=false->a 1=true->∀ b d e f g h i j k,c a b d e f g h i j k->
 RR (sOp (.load 3 (.const i)) 3) k fun h k=>
 c (ay a 2) b d e f g h i j k)/\
 (∀ a:Nat->Bool,a 3=false->a 0=true->a 2=true->∀ b d e f g h i j k,c a b d e f g h i j k->
 RR (sOp (.indexAddr 23 (.const j) (.const h)) 0) k fun g k=>
 c (ay a 3) b d e f g h i j k)/\
 (∀ a:Nat->Bool,a 4=false->a 3=true->∀ b d e f g h i j k,c a b d e f g h i j k->
 RR (sOp (.load 25 (.const g)) 25) k fun f k=>
 c (ay a 4) b d e f g h i j k)/\
 (∀ a:Nat->Bool,a 5=false->∀ d e f g h i j k l,c a d e f g h i j k l->
 RR (sOp (.load 25 (.const b)) 25) l fun b f=>
 c (ay a 5) d e b g h i j k f)/\
 (∀ a:Nat->Bool,a 6=false->a 4=true->a 5=true->∀ b d e f g h i j k,c a b d e f g h i j k->
 RR (aH (.func (.func 118) #[] #[]) [f,e]) k fun d k=>
 c (ay a 6) b d e f g h i j k)/\
 (∀ a:Nat->Bool,a 7=false->a 6=true->a 6=true->a 0=true->a 1=true->a 2=true->a 3=true->a 4=true->a 5=true->a 6=true->∀ b d e f g h i j k,c a b d e f g h i j k->
 c (ay a 7) d d e f g h i j k)/\
 True)/\
 ∀ a:Nat->Bool,a 7=true->a 6=true->a 5=true->a 4=true->a 3=true->a 2=true->a 1=true->a 0=true->∀ b d e f g h i j k,c a b d e f g h i j k->
 R (.returned b) k)) (
 RR (sOp (.fieldAddr 25 (.const a) 1) 0) d fun a c=>
 RR (sOp (.load 3 (.const a)) 3) c fun a c=>
 RR (sOp (.load 25 (.const b)) 25) c fun b c=>
 RR (sOp (.indexAddr 23 (.const p2) (.const a)) 0) c fun a c=>
 RR (sOp (.store 25 (.const a) (.const b)) 0) c fun _ a=>
 R (.returned (.bool true)) a)) (
 (∃ c:Value->World->Prop,(
 RR (sOp (.fieldAddr 25 (.const a) 0) 0) d fun d e=>
 RR (sOp (.load 3 (.const d)) 3) e fun d e=>
 RR (sOp (.fieldAddr 25 (.const b) 0) 0) e fun e f=>
 RR (sOp (.load 3 (.const e)) 3) f fun e f=>
 RR (aq .neq 3 false false d e) f fun d e=>
 ((fun c:VW=>aj d false (
 RR (sOp (.fieldAddr 25 (.const a) 1) 0) e fun a e=>
 RR (sOp (.load 3 (.const a)) 3) e fun a e=>
 RR (sOp (.fieldAddr 25 (.const b) 1) 0) e fun b e=>
 RR (sOp (.load 3 (.const b)) 3) e fun b e=>
 RR (aq .neq 3 false false a b) e fun a b=>
 RR (sOp (.pick (.const d) (.const (.bool true)) (.const a)) 4) b fun a b=>c a b) (
 RR (sOp (.pick (.const d) (.const (.bool true)) (.const undef)) 4) e fun a b=>c a b)) fun d e=>
 ((fun c:VW=>aj d false (
 RR (sOp (.fieldAddr 25 (.const a) 2) 0) e fun a e=>
 RR (sOp (.load 9 (.const a)) 9) e fun a e=>
 RR (sOp (.fieldAddr 25 (.const b) 2) 0) e fun b e=>
 RR (sOp (.load 9 (.const b)) 9) e fun b e=>
 RR (aq .neq 9 false false a b) e fun a b=>
 RR (sOp (.pick (.const d) (.const (.bool true)) (.const a)) 4) b fun a b=>c a b) (
 RR (sOp (.pick (.const d) (.const (.bool true)) (.const undef)) 4) e fun a b=>c a b)) fun d e=>
 aj d false (
 RR (sOp (.fieldAddr 25 (.const a) 3) 0) e fun a e=>
 RR (sOp (.load 23 (.const a)) 23) e fun a e=>
 RR (ar .len #[23] 3 [false] [a]) e fun a e=>
 RR (sOp (.fieldAddr 25 (.const b) 3) 0) e fun b e=>
 RR (sOp (.load 23 (.const b)) 23) e fun b e=>
 RR (ar .len #[23] 3 [false] [b]) e fun b e=>
 RR (aq .neq 3 false false a b) e fun a b=>
 RR (sOp (.pick (.const d) (.const (.bool true)) (.const a)) 4) b fun a b=>
 c a b) (
 RR (sOp (.pick (.const d) (.const (.bool true)) (.const undef)) 4) e fun a b=>
 c a b))))/\
 ∀ d _ _ _ _ _ _ _ _ _ _ _ _ _ _ _ _ _ _ _ _ _ _ _ _ _ _ _:Value,∀ e:World,c d e->
 CondV d (
 R (.returned (.bool false)) e) (
 (∃ (c:Value->World->Prop) (d:Value->World->Nat),c (.int .i64 0) e/\
 ∀ e _ _ _ f g h i j k l m n o p q r _ _ _ _ _:Value,∀ s:World,c e s->
 RR (sOp (.fieldAddr 25 (.const a) 3) 0) s fun t u=>
 RR (sOp (.load 23 (.const t)) 23) u fun t u=>
 RR (ar .len #[23] 3 [false] [t]) u fun t u=>
 RR (aq .lss 3 false false e t) u fun t u=>
 CondV t (
 (∃ t:(Nat->Bool)->Value->Value->Value->Value->Value->Value->Value->Value->Value->Value->Value->Value->Value->World->Prop,t (fun _=>false) f g h i j k l m n o p q r { u with drawn:=u.drawn+1 }/\(
 (∀ b:Nat->Bool,b 0=false->∀ c d e f g h i j k l m n o p,t b c d e f g h i j k l m n o p->
 RR (sOp (.fieldAddr 25 (.const a) 3) 0) p fun a o=>
 t (ay b 0) c d e f g h i j k l m n a o)/\
 (∀ a:Nat->Bool,a 1=false->a 0=true->∀ b c d e f g h i j k l m n o,t a b c d e f g h i j k l m n o->
 RR (sOp (.load 23 (.const n)) 23) o fun m o=>
 t (ay a 1) b c d e f g h i j k l m n o)/\
 (∀ a:Nat->Bool,a 2=false->∀ b c d f g h i j k l m n o p,t a b c d f g h i j k l m n o p->
 t (ay a 2) b c d f g h i j k l e n o p)/\
 (∀ a:Nat->Bool,a 3=false->a 1=true->a 2=true->∀ b c d e f g h i j k l m n o,t a b c d e f g h i j k l m n o->
 RR (sOp (.indexAddr 23 (.const m) (.const l)) 0) o fun k o=>
 t (ay a 3) b c d e f g h i j k l m n o)/\
 (∀ a:Nat->Bool,a 4=false->a 3=true->∀ b c d e f g h i j k l m n o,t a b c d e f g h i j k l m n o->
 RR (sOp (.load 25 (.const k)) 25) o fun j o=>
 t (ay a 4) b c d e f g h i j k l m n o)/\
 (∀ a:Nat->Bool,a 5=false->∀ c d e f g h i j k l m n o p,t a c d e f g h i j k l m n o p->
 RR (sOp (.fieldAddr 25 (.const b) 3) 0) p fun b j=>
 t (ay a 5) c d e f g h i b k l m n o j)/\
 (∀ a:Nat->Bool,a 6=false->a 5=true->∀ b c d e f g h i j k l m n o,t a b c d e f g h i j k l m n o->
 RR (sOp (.load 23 (.const i)) 23) o fun h o=>
 t (ay a 6) b c d e f g h i j k l m n o)/\
 (∀ a:Nat->Bool,a 7=false->∀ b c d f g h i j k l m n o p,t a b c d f g h i j k l m n o p->
 t (ay a 7) b c d f g e i j k l m n o p)/\
 (∀ a:Nat->Bool,a 8=false->a 6=true->a 7=true->∀ b c d e f g h i j k l m n o,t a b c d e f g h i j k l m n o->
 RR (sOp (.indexAddr 23 (.const h) (.const g)) 0) o fun f o=>
 t (ay a 8) b c d e f g h i j k l m n o)/\
 (∀ a:Nat->Bool,a 9=false->a 8=true->∀ b c d e f g h i j k l m n o,t a b c d e f g h i j k l m n o->
 RR (sOp (.load 25 (.const f)) 25) o fun e o=>
 t (ay a 9) b c d e f g h i j k l m n o)/\
 (∀ a:Nat->Bool,a 10=false->∀ b c d e f g h i j k l m n o,t a b c d e f g h i j k l m n o->
 t (ay a 10) b c p2 e f g h i j k l m n o)/\
 (∀ a:Nat->Bool,a 11=false->a 4=true->a 9=true->a 10=true->∀ b c d e f g h i j k l m n o,t a b c d e f g h i j k l m n o->
 RR (aH (.func (.func 85) #[] #[]) [j,e,d]) o fun c o=>
 t (ay a 11) b c d e f g h i j k l m n o)/\
 (∀ a:Nat->Bool,a 12=false->a 11=true->∀ b c d e f g h i j k l m n o,t a b c d e f g h i j k l m n o->
 RR (sOp (.unOp .not 4 (.const c)) 4) o fun b o=>
 t (ay a 12) b c d e f g h i j k l m n o)/\
 True)/\
 ∀ a:Nat->Bool,a 12=true->a 11=true->a 10=true->a 9=true->a 8=true->a 7=true->a 6=true->a 5=true->a 4=true->a 3=true->a 2=true->a 1=true->a 0=true->∀ b f g h i j k l m n o p q r,t a b f g h i j k l m n o p q r->
 CondV b (
 R (.returned (.bool false)) r) (
 RR (aq .add 3 false true e (.int .i64 1)) r fun a b=>
 c a b/\d a b<d e s))) (
 R (.returned (.bool true)) u)))))
theorem yu {p0 p1 p2:Value} {w:World} {R:Ending->World->Prop} (h:tx p0 p1 p2 w R):Calls Tryz.prog 85 #[p0,p1,p2] w R:=
  aK (.seq none .leaf (.seq none .leaf (.seq none (.seq (some [57]) .leaf .leaf) (.seq none (.seq none .leaf (.one (.loop [7] .leaf))) .leaf)))) [p0,p1,p2] be Tryz.func85 (by kernel_rfl) (by kernel_rfl) h


/- loop.example/prologserver/impl.scan : function 86 -/
def C6 (p0 p1 p2:Value) (w:World) (R:Ending->World->Prop):Prop:=
 RR (sOp (.box 25 (.const p0)) 0) w fun a b=>
 RR (sOp (.box 3 (.const p1)) 0) b fun b c=>
 RR (sOp (.box 91 (.const p2)) 0) c fun c d=>
 RR (sOp (.load 91 (.const c)) 91) d fun d e=>
 RR (sOp (.nilCheck (.const d)) 0) e fun e f=>
 RR (sOp (.load 3 (.const e)) 3) f fun e f=>
 RR (aq .add 3 false true e (.int .i64 1)) f fun e f=>
 RR (sOp (.nilCheck (.const d)) 0) f fun d f=>
 RR (sOp (.store 3 (.const d) (.const e)) 0) f fun _ d=>
 (∃ e:Value->World->Prop,(
 RR (sOp (.load 91 (.const c)) 91) d fun a c=>
 RR (sOp (.nilCheck (.const a)) 0) c fun a c=>
 RR (sOp (.load 3 (.const a)) 3) c fun a c=>
 RR (aq .gtr 3 false true a (.int .i64 120)) c fun a c=>
 aj a false (
 RR (sOp (.load 3 (.const b)) 3) c fun b c=>
 RR (aq .gtr 3 false true b (.int .i64 30)) c fun b c=>
 RR (sOp (.pick (.const a) (.const (.bool true)) (.const b)) 4) c fun a b=>
 e a b) (
 RR (sOp (.pick (.const a) (.const (.bool true)) (.const undef)) 4) c fun a b=>
 e a b))/\
 ∀ d _ _ _ _ _ _ _:Value,∀ f:World,e d f->
 CondV d (
 R (.returned (.bool false)) f) (
 RR (sOp (.fieldAddr 25 (.const a) 0) 0) f fun d e=>
 RR (sOp (.load 3 (.const d)) 3) e fun d e=>
 RR (aq .eql 3 false true d (.int .i64 1)) e fun e f=>
 CondV e (
 RR (sOp (.fieldAddr 25 (.const a) 1) 0) f fun b c=>
 RR (sOp (.load 3 (.const b)) 3) c fun b c=>
 RR (aH (.func (.func 126) #[] #[]) [b,(.int .i64 0),(.int .i64 25)]) c fun b c=>
 ((fun d:VW=>aj b true (
 RR (sOp (.fieldAddr 25 (.const a) 2) 0) c fun a c=>
 RR (sOp (.load 9 (.const a)) 9) c fun a c=>
 RR (aq .eql 9 false true a (.string ⟨#[]⟩)) c fun a c=>
 RR (sOp (.pick (.const b) (.const a) (.const (.bool false))) 4) c fun a b=>d a b) (
 RR (sOp (.pick (.const b) (.const undef) (.const (.bool false))) 4) c fun a b=>d a b)) fun b c=>
 aj b true (
 RR (sOp (.fieldAddr 25 (.const a) 3) 0) c fun a c=>
 RR (sOp (.load 23 (.const a)) 23) c fun a c=>
 RR (ar .len #[23] 3 [false] [a]) c fun a c=>
 RR (aq .eql 3 false true a (.int .i64 0)) c fun a c=>
 RR (sOp (.pick (.const b) (.const a) (.const (.bool false))) 4) c fun a b=>
 R (.returned a) b) (
 RR (sOp (.pick (.const b) (.const undef) (.const (.bool false))) 4) c fun a b=>
 R (.returned a) b))) (
 RR (aq .eql 3 false true d (.int .i64 2)) f fun e f=>
 CondV e (
 RR (sOp (.fieldAddr 25 (.const a) 1) 0) f fun b c=>
 RR (sOp (.load 3 (.const b)) 3) c fun b c=>
 RR (aH (.func (.func 126) #[] #[]) [b,(.int .i64 (-999)),(.int .i64 999)]) c fun b c=>
 ((fun d:VW=>aj b true (
 RR (sOp (.fieldAddr 25 (.const a) 2) 0) c fun a c=>
 RR (sOp (.load 9 (.const a)) 9) c fun a c=>
 RR (aq .eql 9 false true a (.string ⟨#[]⟩)) c fun a c=>
 RR (sOp (.pick (.const b) (.const a) (.const (.bool false))) 4) c fun a b=>d a b) (
 RR (sOp (.pick (.const b) (.const undef) (.const (.bool false))) 4) c fun a b=>d a b)) fun b c=>
 aj b true (
 RR (sOp (.fieldAddr 25 (.const a) 3) 0) c fun a c=>
 RR (sOp (.load 23 (.const a)) 23) c fun a c=>
 RR (ar .len #[23] 3 [false] [a]) c fun a c=>
 RR (aq .eql 3 false true a (.int .i64 0)) c fun a c=>
 RR (sOp (.pick (.const b) (.const a) (.const (.bool false))) 4) c fun a b=>
 R (.returned a) b) (
 RR (sOp (.pick (.const b) (.const undef) (.const (.bool false))) 4) c fun a b=>
 R (.returned a) b))) (
 RR (aq .eql 3 false true d (.int .i64 3)) f fun d e=>
 CondV d (
 (∃ d:Value->World->Prop,(
 RR (sOp (.fieldAddr 25 (.const a) 1) 0) e fun b c=>
 RR (sOp (.load 3 (.const b)) 3) c fun b c=>
 RR (aq .neq 3 false true b (.int .i64 0)) c fun b c=>
 ((fun d:VW=>aj b false (
 RR (sOp (.fieldAddr 25 (.const a) 2) 0) c fun a c=>
 RR (sOp (.load 9 (.const a)) 9) c fun a c=>
 RR (aH (.func (.func 127) #[] #[]) [a]) c fun a c=>
 RR (sOp (.unOp .not 4 (.const a)) 4) c fun a c=>
 RR (sOp (.pick (.const b) (.const (.bool true)) (.const a)) 4) c fun a b=>d a b) (
 RR (sOp (.pick (.const b) (.const (.bool true)) (.const undef)) 4) c fun a b=>d a b)) fun b c=>
 aj b false (
 RR (sOp (.fieldAddr 25 (.const a) 3) 0) c fun a c=>
 RR (sOp (.load 23 (.const a)) 23) c fun a c=>
 RR (ar .len #[23] 3 [false] [a]) c fun a c=>
 RR (aq .gtr 3 false true a (.int .i64 4)) c fun a c=>
 RR (sOp (.pick (.const b) (.const (.bool true)) (.const a)) 4) c fun a b=>
 d a b) (
 RR (sOp (.pick (.const b) (.const (.bool true)) (.const undef)) 4) c fun a b=>
 d a b)))/\
 ∀ e _ _ _ _ _ _ _ _ _ _ _ _ _ _:Value,∀ f:World,d e f->
 CondV e (
 R (.returned (.bool false)) f) (
 RR (sOp (.fieldAddr 25 (.const a) 3) 0) f fun a d=>
 RR (sOp (.load 23 (.const a)) 23) d fun a d=>
 RR (fU (.func 128) [] [b,c]) d fun b c=>
 RR (aH (.func (.func 57) #[] #[]) [a,b]) c fun a b=>
 RR (sOp (.unOp .not 4 (.const a)) 4) b fun a b=>
 R (.returned a) b))) (
 R (.returned (.bool false)) e)))))
theorem Dv {p0 p1 p2:Value} {w:World} {R:Ending->World->Prop} (h:C6 p0 p1 p2 w R):Calls Tryz.prog 86 #[p0,p1,p2] w R:=
  aK (.seq none .leaf (.seq none .leaf (.seq none (.seq (some [19]) .leaf .leaf) (.seq none (.seq none .leaf (.one (.seq none .leaf (.two .leaf (.seq none .leaf (.two .leaf (.seq none .leaf (.two (.seq none (.seq (some [70]) .leaf .leaf) .leaf) .leaf)))))))) .leaf)))) [p0,p1,p2] be Tryz.func86 (by kernel_rfl) (by kernel_rfl) h


/- slices.IndexFunc[[]loop.example/prologserver/impl.Clause,loop.example/prologserver/impl.Clause] : function 87 -/
def hZ (p0 p1:Value) (w:World) (R:Ending->World->Prop):Prop:=
 RR (ar .len #[32] 3 [false] [p0]) w fun a b=>
 (∃ (c:Value->World->Prop) (d:Value->World->Nat),c (.int .i64 0) b/\
 ∀ b _ _ _ _ _ _ _ _ _ _ _ _:Value,∀ e:World,c b e->
 RR (aq .lss 3 false false b a) e fun a f=>
 CondV a (
 RR (sOp (.indexAddr 32 (.const p0) (.const b)) 0) f fun a f=>
 RR (sOp (.load 39 (.const a)) 39) f fun a f=>
 RR (aH p1 [a]) f fun a f=>
 CondV a (
 R (.returned b) f) (
 RR (aq .add 3 false true b (.int .i64 1)) f fun a f=>
 c a f/\d a f<d b e)) (
 R (.returned (.int .i64 (-1))) f))
theorem lG {p0 p1:Value} {w:World} {R:Ending->World->Prop} (h:hZ p0 p1 w R):Calls Tryz.prog 87 #[p0,p1] w R:=
  aK (.seq none .leaf (.seq none (.seq none .leaf (.one (.loop [8] .leaf))) .leaf)) [p0,p1] be Tryz.func87 (by kernel_rfl) (by kernel_rfl) h


/- loop.example/prologserver/impl.isFlat : function 88 -/
def wA (p0:Value) (w:World) (R:Ending->World->Prop):Prop:=
 RR (sOp (.box 25 (.const p0)) 0) w fun a b=>
 RR (sOp (.load 25 (.const a)) 25) b fun b c=>
 RR (aH (.func (.func 54) #[] #[]) [b]) c fun b c=>
 aj b true (
 RR (sOp (.fieldAddr 25 (.const a) 3) 0) c fun a c=>
 RR (sOp (.load 23 (.const a)) 23) c fun a c=>
 RR (aH (.func (.func 57) #[] #[]) [a,(.func (.func 129) #[] #[])]) c fun a c=>
 RR (sOp (.unOp .not 4 (.const a)) 4) c fun a c=>
 RR (sOp (.pick (.const b) (.const a) (.const (.bool false))) 4) c fun a b=>
 R (.returned a) b) (
 RR (sOp (.pick (.const b) (.const undef) (.const (.bool false))) 4) c fun a b=>
 R (.returned a) b)
theorem zw {p0:Value} {w:World} {R:Ending->World->Prop} (h:wA p0 w R):Calls Tryz.prog 88 #[p0] w R:=
  aK .leaf [p0] be Tryz.func88 (by kernel_rfl) (by kernel_rfl) h


/- loop.example/prologserver/impl.flatClause$1 : function 89 -/
def lj (p0:Value) (w:World) (R:Ending->World->Prop):Prop:=
 RR (sOp (.box 25 (.const p0)) 0) w fun a b=>
 RR (sOp (.load 25 (.const a)) 25) b fun a b=>
 RR (aH (.func (.func 88) #[] #[]) [a]) b fun a b=>
 RR (sOp (.unOp .not 4 (.const a)) 4) b fun a b=>
 R (.returned a) b
theorem pn {p0:Value} {w:World} {R:Ending->World->Prop} (h:lj p0 w R):Calls Tryz.prog 89 #[p0] w R:=
  aK .leaf [p0] be Tryz.func89 (by kernel_rfl) (by kernel_rfl) h


/- loop.example/prologserver/impl.varsOf : function 90 -/
def vQ (p0:Value) (w:World) (R:Ending->World->Prop):Prop:=
 RR (ar .len #[23] 3 [false] [p0]) w fun a b=>
 (∃ (c:Value->Value->World->Prop) (d:Value->Value->World->Nat),c (.int .i64 0) (Value.slice none 0 0) b/\
 ∀ b _ e _ _ _ _ _ _ _:Value,∀ f:World,c b e f->
 RR (aq .lss 3 false false b a) f fun a g=>
 CondV a (
 RR (sOp (.indexAddr 23 (.const p0) (.const b)) 0) g fun a g=>
 RR (sOp (.load 25 (.const a)) 25) g fun a g=>
 RR (sOp (.alloc 25) 0) g fun g h=>
 RR (sOp (.store 25 (.const g) (.const a)) 0) h fun _ a=>
 RR (sOp (.load 25 (.const g)) 25) a fun a g=>
 RR (aH (.func (.func 92) #[] #[]) [a,e]) g fun a g=>
 RR (aq .add 3 false true b (.int .i64 1)) g fun g h=>
 c g a h/\d g a h<d b e f) (
 R (.returned e) g))
theorem y5 {p0:Value} {w:World} {R:Ending->World->Prop} (h:vQ p0 w R):Calls Tryz.prog 90 #[p0] w R:=
  aK (.seq none .leaf (.seq none .leaf (.seq none (.seq none .leaf (.one (.loop [8,3] .leaf))) .leaf))) [p0] be Tryz.func90 (by kernel_rfl) (by kernel_rfl) h


/- slices.ContainsFunc[[]int,int] : function 91 -/
def hO (p0 p1:Value) (w:World) (R:Ending->World->Prop):Prop:=
 RR (aH (.func (.func 130) #[] #[]) [p0,p1]) w fun a b=>
 RR (aq .geq 3 false true a (.int .i64 0)) b fun a b=>
 R (.returned a) b
theorem lq {p0 p1:Value} {w:World} {R:Ending->World->Prop} (h:hO p0 p1 w R):Calls Tryz.prog 91 #[p0,p1] w R:=
  aK .leaf [p0,p1] be Tryz.func91 (by kernel_rfl) (by kernel_rfl) h


/- loop.example/prologserver/impl.addVars : function 92 -/
def s4 (p0 p1:Value) (w:World) (R:Ending->World->Prop):Prop:=
 RR (sOp (.box 25 (.const p0)) 0) w fun a b=>
 (∃ c:Value->World->Prop,(
 (∃ d:Value->World->Prop,(
 RR (sOp (.fieldAddr 25 (.const a) 0) 0) b fun b c=>
 RR (sOp (.load 3 (.const b)) 3) c fun b c=>
 RR (aq .eql 3 false true b (.int .i64 1)) c fun b c=>
 aj b true (
 RR (sOp (.fieldAddr 25 (.const a) 1) 0) c fun a c=>
 RR (sOp (.load 3 (.const a)) 3) c fun a c=>
 RR (aH (.func (.func 94) #[] #[]) [p1,a]) c fun a c=>
 RR (sOp (.unOp .not 4 (.const a)) 4) c fun a c=>
 RR (sOp (.pick (.const b) (.const a) (.const (.bool false))) 4) c fun a b=>
 d a b) (
 RR (sOp (.pick (.const b) (.const undef) (.const (.bool false))) 4) c fun a b=>
 d a b))/\
 ∀ b _ _ _ _ _ _ _ _ _:Value,∀ e:World,d b e->
 CondV b (
 RR (sOp (.fieldAddr 25 (.const a) 1) 0) e fun a b=>
 RR (sOp (.load 3 (.const a)) 3) b fun a b=>
 RR (aS 71 1 [(0,a)]) b fun a b=>
 RR (ar .append #[71,71] 71 [false,false] [p1,a]) b fun a b=>
 c a b) (
 c p1 e)))/\
 ∀ b _ _ _ _ _ _ _ _ _ _ _ _ _ _ _:Value,∀ d:World,c b d->
 RR (sOp (.fieldAddr 25 (.const a) 3) 0) d fun a c=>
 RR (sOp (.load 23 (.const a)) 23) c fun a c=>
 RR (ar .len #[23] 3 [false] [a]) c fun c d=>
 (∃ (e:Value->Value->World->Prop) (f:Value->Value->World->Nat),e (.int .i64 0) b d/\
 ∀ b _ d _ _ _ _ _ _ _:Value,∀ g:World,e b d g->
 RR (aq .lss 3 false false b c) g fun c h=>
 CondV c (
 RR (sOp (.indexAddr 23 (.const a) (.const b)) 0) h fun a c=>
 RR (sOp (.load 25 (.const a)) 25) c fun a c=>
 RR (sOp (.alloc 25) 0) c fun c h=>
 RR (sOp (.store 25 (.const c) (.const a)) 0) h fun _ a=>
 RR (sOp (.load 25 (.const c)) 25) a fun a c=>
 RR (aH (.func (.func 92) #[] #[]) [a,d]) c fun a c=>
 RR (aq .add 3 false true b (.int .i64 1)) c fun c h=>
 e c a h/\f c a h<f b d g) (
 R (.returned d) h)))
theorem xH {p0 p1:Value} {w:World} {R:Ending->World->Prop} (h:s4 p0 p1 w R):Calls Tryz.prog 92 #[p0,p1] w R:=
  aK (.seq none .leaf (.seq (some [1]) (.seq (some [16]) .leaf .leaf) (.seq none (.seq none .leaf (.one (.loop [25,1] .leaf))) .leaf))) [p0,p1] be Tryz.func92 (by kernel_rfl) (by kernel_rfl) h


/- loop.example/prologserver/impl.flatClause$2 : function 93 -/
def kU (p0 p1:Value) (w:World) (R:Ending->World->Prop):Prop:=
 RR (sOp (.load 71 (.const p1)) 71) w fun a b=>
 RR (aH (.func (.func 94) #[] #[]) [a,p0]) b fun a b=>
 RR (sOp (.unOp .not 4 (.const a)) 4) b fun a b=>
 R (.returned a) b
theorem pw {p0 p1:Value} {w:World} {R:Ending->World->Prop} (h:kU p0 p1 w R):Calls Tryz.prog 93 #[p0,p1] w R:=
  aK .leaf [p0,p1] be Tryz.func93 (by kernel_rfl) (by kernel_rfl) h


/- slices.Contains[[]int,int] : function 94 -/
def lp (p0 p1:Value) (w:World) (R:Ending->World->Prop):Prop:=
 RR (aH (.func (.func 131) #[] #[]) [p0,p1]) w fun a b=>
 RR (aq .geq 3 false true a (.int .i64 0)) b fun a b=>
 R (.returned a) b
theorem pt {p0 p1:Value} {w:World} {R:Ending->World->Prop} (h:lp p0 p1 w R):Calls Tryz.prog 94 #[p0,p1] w R:=
  aK .leaf [p0,p1] be Tryz.func94 (by kernel_rfl) (by kernel_rfl) h


/- loop.example/prologserver/impl.round : function 95 -/
def zV (p0 p1:Value) (w:World) (R:Ending->World->Prop):Prop:=
 RR (aH (.func (.func 38) #[] #[]) [p1]) w fun a b=>
 RR (sOp (.alloc 23) 0) b fun b c=>
 RR (sOp (.store 23 (.const b) (.const a)) 0) c fun _ a=>
 RR (ar .len #[32] 3 [false] [p0]) a fun a c=>
 (∃ (d:Value->World->Prop) (e:Value->World->Nat),d (.int .i64 0) c/\
 ∀ c _ _ _ _ _ _ _ _ _ _:Value,∀ f:World,d c f->
 RR (aq .lss 3 false false c a) f fun a g=>
 CondV a (
 RR (sOp (.indexAddr 32 (.const p0) (.const c)) 0) g fun a g=>
 RR (sOp (.load 39 (.const a)) 39) g fun a g=>
 RR (sOp (.alloc 39) 0) g fun g h=>
 RR (sOp (.store 39 (.const g) (.const a)) 0) h fun _ a=>
 RR (sOp (.load 39 (.const g)) 39) a fun a g=>
 RR (sOp (.makeMap 59 none) 59) g fun g h=>
 RR (fU (.func 132) [] [b]) h fun b h=>
 RR (aH (.func (.func 66) #[] #[]) [a,(.int .i64 0),p1,g,b]) h fun _ a=>
 RR (aq .add 3 false true c (.int .i64 1)) a fun a b=>
 d a b/\e a b<e c f) (
 (∃ a:(Nat->Bool)->Value->Value->Value->Value->Value->Value->World->Prop,a (fun _=>false) (.bool false) (Value.slice none 0 0) undef undef undef undef { g with drawn:=g.drawn+1 }/\(
 (∀ c:Nat->Bool,c 0=false->∀ d e f g h i j,a c d e f g h i j->
 RR (sOp (.load 23 (.const b)) 23) j fun b i=>
 a (ay c 0) d e f g h b i)/\
 (∀ c:Nat->Bool,c 1=false->∀ d e f g h i j,a c d e f g h i j->
 RR (sOp (.load 23 (.const b)) 23) j fun b h=>
 a (ay c 1) d e f g b i h)/\
 (∀ b:Nat->Bool,b 2=false->b 1=true->∀ c d e f g h i,a b c d e f g h i->
 RR (ar .len #[23] 3 [false] [g]) i fun f i=>
 a (ay b 2) c d e f g h i)/\
 (∀ b:Nat->Bool,b 3=false->b 2=true->∀ c d e f g h i,a b c d e f g h i->
 RR (aq .leq 3 false true f (.int .i64 60)) i fun e i=>
 a (ay b 3) c d e f g h i)/\
 (∀ b:Nat->Bool,b 4=false->b 0=true->b 0=true->∀ c d e f g h i,a b c d e f g h i->
 a (ay b 4) c h e f g h i)/\
 (∀ b:Nat->Bool,b 5=false->b 3=true->b 4=true->b 0=true->b 1=true->b 2=true->b 3=true->b 4=true->∀ c d e f g h i,a b c d e f g h i->
 a (ay b 5) e d e f g h i)/\
 True)/\
 ∀ b:Nat->Bool,b 5=true->b 4=true->b 3=true->b 2=true->b 1=true->b 0=true->∀ c d e f g h i,a b c d e f g h i->
 R (.returned (.tuple #[d,c])) i)))
theorem Bf {p0 p1:Value} {w:World} {R:Ending->World->Prop} (h:zV p0 p1 w R):Calls Tryz.prog 95 #[p0,p1] w R:=
  aK (.seq none .leaf (.seq none .leaf (.seq none (.seq none .leaf (.one (.loop [13] .leaf))) .leaf))) [p0,p1] be Tryz.func95 (by kernel_rfl) (by kernel_rfl) h


/- loop.example/prologserver/spec.ClauseValid : function 96 -/
def me (p0:Value) (w:World) (R:Ending->World->Prop):Prop:=
 RR (sOp (.box 39 (.const p0)) 0) w fun a b=>
 (∃ (c:Value->World->Prop) (d:Value->World->Nat),c (.int .i64 0) b/\
 ∀ b _ _ _ _ _ _ _ _ _ _ _ _ _ _ _ _ _ _ _:Value,∀ e:World,c b e->
 (∃ f:Value->World->Prop,(
 RR (sOp (.fieldAddr 39 (.const a) 1) 0) e fun a c=>
 RR (sOp (.load 23 (.const a)) 23) c fun a c=>
 RR (ar .len #[23] 3 [false] [a]) c fun a c=>
 RR (aq .lss 3 false false b a) c fun a c=>
 aj a true (
 RR (aq .leq 3 false true b (.int .i64 6)) c fun b c=>
 RR (sOp (.pick (.const a) (.const b) (.const (.bool false))) 4) c fun a b=>
 f a b) (
 RR (sOp (.pick (.const a) (.const undef) (.const (.bool false))) 4) c fun a b=>
 f a b))/\
 ∀ g _ _ _ _ _ _ _ _:Value,∀ h:World,f g h->
 CondV g (
 RR (sOp (.fieldAddr 39 (.const a) 1) 0) h fun a f=>
 RR (sOp (.load 23 (.const a)) 23) f fun a f=>
 RR (sOp (.indexAddr 23 (.const a) (.const b)) 0) f fun a f=>
 RR (sOp (.load 25 (.const a)) 25) f fun a f=>
 RR (aH (.func (.func 134) #[] #[]) [a]) f fun a f=>
 RR (sOp (.unOp .not 4 (.const a)) 4) f fun a f=>
 CondV a (
 R (.returned (.bool false)) f) (
 RR (aq .add 3 false true b (.int .i64 1)) f fun a f=>
 c a f/\d a f<d b e)) (
 RR (sOp (.fieldAddr 39 (.const a) 1) 0) h fun b c=>
 RR (sOp (.load 23 (.const b)) 23) c fun b c=>
 RR (ar .len #[23] 3 [false] [b]) c fun b c=>
 RR (aq .leq 3 false true b (.int .i64 6)) c fun b c=>
 ((fun d:VW=>aj b true (
 RR (sOp (.fieldAddr 39 (.const a) 0) 0) c fun a c=>
 RR (sOp (.load 25 (.const a)) 25) c fun a c=>
 RR (aH (.func (.func 84) #[] #[]) [a]) c fun a c=>
 RR (sOp (.pick (.const b) (.const a) (.const (.bool false))) 4) c fun a b=>d a b) (
 RR (sOp (.pick (.const b) (.const undef) (.const (.bool false))) 4) c fun a b=>d a b)) fun b c=>
 aj b true (
 RR (sOp (.fieldAddr 39 (.const a) 0) 0) c fun a c=>
 RR (sOp (.load 25 (.const a)) 25) c fun a c=>
 RR (aH (.func (.func 135) #[] #[]) [a]) c fun a c=>
 RR (sOp (.pick (.const b) (.const a) (.const (.bool false))) 4) c fun a b=>
 R (.returned a) b) (
 RR (sOp (.pick (.const b) (.const undef) (.const (.bool false))) 4) c fun a b=>
 R (.returned a) b)))))
theorem p5 {p0:Value} {w:World} {R:Ending->World->Prop} (h:me p0 w R):Calls Tryz.prog 96 #[p0] w R:=
  aK (.seq none .leaf (.seq none (.seq none .leaf (.one (.loop [3] (.seq none (.seq (some [12]) .leaf .leaf) .leaf)))) .leaf)) [p0] be Tryz.func96 (by kernel_rfl) (by kernel_rfl) h


/- loop.example/prologserver/spec.l16Flat : function 97 -/
def sv (p0:Value) (w:World) (R:Ending->World->Prop):Prop:=
 RR (sOp (.box 25 (.const p0)) 0) w fun a b=>
 (∃ (c:Value->World->Prop) (d:Value->World->Nat),c (.int .i64 0) b/\
 ∀ b _ _ _ _ _ _ _ _ _ _ _ _ _ _ _ _:Value,∀ e:World,c b e->
 RR (sOp (.fieldAddr 25 (.const a) 3) 0) e fun f g=>
 RR (sOp (.load 23 (.const f)) 23) g fun f g=>
 RR (ar .len #[23] 3 [false] [f]) g fun f g=>
 RR (aq .lss 3 false false b f) g fun f g=>
 CondV f (
 RR (sOp (.fieldAddr 25 (.const a) 3) 0) g fun a f=>
 RR (sOp (.load 23 (.const a)) 23) f fun a f=>
 RR (sOp (.indexAddr 23 (.const a) (.const b)) 0) f fun a f=>
 RR (sOp (.fieldAddr 25 (.const a) 3) 0) f fun a f=>
 RR (sOp (.load 23 (.const a)) 23) f fun a f=>
 RR (ar .len #[23] 3 [false] [a]) f fun a f=>
 RR (aq .gtr 3 false true a (.int .i64 0)) f fun a f=>
 CondV a (
 R (.returned (.bool false)) f) (
 RR (aq .add 3 false true b (.int .i64 1)) f fun a f=>
 c a f/\d a f<d b e)) (
 RR (sOp (.load 25 (.const a)) 25) g fun a b=>
 RR (aH (.func (.func 135) #[] #[]) [a]) b fun a b=>
 R (.returned a) b))
theorem xl {p0:Value} {w:World} {R:Ending->World->Prop} (h:sv p0 w R):Calls Tryz.prog 97 #[p0] w R:=
  aK (.seq none .leaf (.seq none (.seq none .leaf (.one (.loop [3] .leaf))) .leaf)) [p0] be Tryz.func97 (by kernel_rfl) (by kernel_rfl) h


/- loop.example/prologserver/spec.l1Vars : function 98 -/
def v6 (p0 p1:Value) (w:World) (R:Ending->World->Prop):Prop:=
 RR (sOp (.box 25 (.const p1)) 0) w fun a b=>
 RR (sOp (.fieldAddr 25 (.const a) 0) 0) b fun b c=>
 RR (sOp (.load 3 (.const b)) 3) c fun b c=>
 RR (aq .eql 3 false true b (.int .i64 1)) c fun b c=>
 CondV b (
 (∃ (b:Value->World->Prop) (d:Value->World->Nat),b (.int .i64 0) c/\
 ∀ c _ _ _ _ e f g h i j k _ _ _ _:Value,∀ l:World,b c l->
 RR (ar .len #[71] 3 [false] [p0]) l fun m n=>
 RR (aq .lss 3 false false c m) n fun m n=>
 CondV m (
 (∃ m:(Nat->Bool)->Value->Value->Value->Value->Value->Value->Value->World->Prop,m (fun _=>false) e f g h i j k { n with drawn:=n.drawn+1 }/\(
 (∀ a:Nat->Bool,a 0=false->∀ b c d e f g h i,m a b c d e f g h i->
 m (ay a 0) b c d e f g p0 i)/\
 (∀ a:Nat->Bool,a 1=false->∀ b d e f g h i j,m a b d e f g h i j->
 m (ay a 1) b d e f g c i j)/\
 (∀ a:Nat->Bool,a 2=false->a 0=true->a 1=true->∀ b c d e f g h i,m a b c d e f g h i->
 RR (sOp (.indexAddr 71 (.const h) (.const g)) 0) i fun f i=>
 m (ay a 2) b c d e f g h i)/\
 (∀ a:Nat->Bool,a 3=false->a 2=true->∀ b c d e f g h i,m a b c d e f g h i->
 RR (sOp (.load 3 (.const f)) 3) i fun e i=>
 m (ay a 3) b c d e f g h i)/\
 (∀ b:Nat->Bool,b 4=false->∀ c d e f g h i j,m b c d e f g h i j->
 RR (sOp (.fieldAddr 25 (.const a) 1) 0) j fun a e=>
 m (ay b 4) c d a f g h i e)/\
 (∀ a:Nat->Bool,a 5=false->a 4=true->∀ b c d e f g h i,m a b c d e f g h i->
 RR (sOp (.load 3 (.const d)) 3) i fun c i=>
 m (ay a 5) b c d e f g h i)/\
 (∀ a:Nat->Bool,a 6=false->a 3=true->a 5=true->∀ b c d e f g h i,m a b c d e f g h i->
 RR (aq .eql 3 false false e c) i fun b i=>
 m (ay a 6) b c d e f g h i)/\
 True)/\
 ∀ a:Nat->Bool,a 6=true->a 5=true->a 4=true->a 3=true->a 2=true->a 1=true->a 0=true->∀ e f g h i j k n,m a e f g h i j k n->
 CondV e (
 R (.returned p0) n) (
 RR (aq .add 3 false true c (.int .i64 1)) n fun a e=>
 b a e/\d a e<d c l))) (
 RR (sOp (.fieldAddr 25 (.const a) 1) 0) n fun a b=>
 RR (sOp (.load 3 (.const a)) 3) b fun a b=>
 RR (aS 71 1 [(0,a)]) b fun a b=>
 RR (ar .append #[71,71] 71 [false,false] [p0,a]) b fun a b=>
 R (.returned a) b))) (
 (∃ (b:Value->Value->World->Prop) (d:Value->Value->World->Nat),b (.int .i64 0) p0 c/\
 ∀ c _ _ e _ _ _ _ _ _ _ _ _ _ _ _:Value,∀ f:World,b c e f->
 RR (sOp (.fieldAddr 25 (.const a) 3) 0) f fun g h=>
 RR (sOp (.load 23 (.const g)) 23) h fun g h=>
 RR (ar .len #[23] 3 [false] [g]) h fun g h=>
 RR (aq .lss 3 false false c g) h fun g h=>
 CondV g (
 RR (sOp (.fieldAddr 25 (.const a) 3) 0) h fun a g=>
 RR (sOp (.load 23 (.const a)) 23) g fun a g=>
 RR (sOp (.indexAddr 23 (.const a) (.const c)) 0) g fun a g=>
 RR (sOp (.load 25 (.const a)) 25) g fun a g=>
 RR (aH (.func (.func 98) #[] #[]) [e,a]) g fun a g=>
 RR (aq .add 3 false true c (.int .i64 1)) g fun g h=>
 b g a h/\d g a h<d c e f) (
 R (.returned e) h)))
theorem zb {p0 p1:Value} {w:World} {R:Ending->World->Prop} (h:v6 p0 p1 w R):Calls Tryz.prog 98 #[p0,p1] w R:=
  aK (.seq none .leaf (.seq none (.seq none .leaf (.two (.seq none (.seq none .leaf (.one (.loop [5] .leaf))) .leaf) .leaf)) (.seq none (.seq none .leaf (.one (.loop [6,0] .leaf))) .leaf))) [p0,p1] be Tryz.func98 (by kernel_rfl) (by kernel_rfl) h


/- loop.example/prologserver/spec.l16In : function 99 -/
def AE (p0 p1:Value) (w:World) (R:Ending->World->Prop):Prop:=
 (∃ (a:Value->World->Prop) (b:Value->World->Nat),a (.int .i64 0) w/\
 ∀ c _ _ _ _ _ _ _ _ _ _ _ _ _:Value,∀ d:World,a c d->
 RR (ar .len #[71] 3 [false] [p0]) d fun e f=>
 RR (aq .lss 3 false false c e) f fun e f=>
 CondV e (
 RR (sOp (.indexAddr 71 (.const p0) (.const c)) 0) f fun e f=>
 RR (sOp (.load 3 (.const e)) 3) f fun e f=>
 RR (aq .eql 3 false false e p1) f fun e f=>
 CondV e (
 R (.returned (.bool true)) f) (
 RR (aq .add 3 false true c (.int .i64 1)) f fun e f=>
 a e f/\b e f<b c d)) (
 R (.returned (.bool false)) f))
theorem Br {p0 p1:Value} {w:World} {R:Ending->World->Prop} (h:AE p0 p1 w R):Calls Tryz.prog 99 #[p0,p1] w R:=
  aK (.seq none .leaf (.seq none (.seq none .leaf (.one (.loop [5] .leaf))) .leaf)) [p0,p1] be Tryz.func99 (by kernel_rfl) (by kernel_rfl) h


/- loop.example/prologserver/spec.l16Round : function 100 -/
def qm (p0 p1:Value) (w:World) (R:Ending->World->Prop):Prop:=
 (∃ (a:Value->Value->World->Prop) (b:Value->Value->World->Nat),a (.int .i64 0) p1 w/\
 ∀ c _ _ d e f g h i j k l _ _ _ _:Value,∀ m:World,a c d m->
 RR (ar .len #[32] 3 [false] [p0]) m fun n o=>
 RR (aq .lss 3 false false c n) o fun n o=>
 CondV n (
 (∃ n:(Nat->Bool)->Value->Value->Value->Value->Value->Value->Value->Value->Value->World->Prop,n (fun _=>false) d e f g h i j k l { o with drawn:=o.drawn+1 }/\(
 (∀ a:Nat->Bool,a 0=false->∀ b c d e f g h i j k,n a b c d e f g h i j k->
 n (ay a 0) b c d e f g h i b k)/\
 (∀ a:Nat->Bool,a 1=false->∀ b c d e f g h i j k,n a b c d e f g h i j k->
 n (ay a 1) b c d e f g h p0 j k)/\
 (∀ a:Nat->Bool,a 2=false->∀ b d e f g h i j k l,n a b d e f g h i j k l->
 n (ay a 2) b d e f g h c j k l)/\
 (∀ a:Nat->Bool,a 3=false->a 1=true->a 2=true->∀ b c d e f g h i j k,n a b c d e f g h i j k->
 RR (sOp (.indexAddr 32 (.const i) (.const h)) 0) k fun g k=>
 n (ay a 3) b c d e f g h i j k)/\
 (∀ a:Nat->Bool,a 4=false->a 3=true->∀ b c d e f g h i j k,n a b c d e f g h i j k->
 RR (sOp (.load 39 (.const g)) 39) k fun f k=>
 n (ay a 4) b c d e f g h i j k)/\
 (∀ a:Nat->Bool,a 5=false->∀ b c d e f g h i j k,n a b c d e f g h i j k->
 n (ay a 5) b c d p1 f g h i j k)/\
 (∀ a:Nat->Bool,a 6=false->∀ b c d e f g h i j k,n a b c d e f g h i j k->
 RR (sOp (.makeSlice 23 (.const (.int .i64 26)) (.const (.int .i64 26))) 23) k fun d k=>
 n (ay a 6) b c d e f g h i j k)/\
 (∀ a:Nat->Bool,a 7=false->a 0=true->a 4=true->a 5=true->a 6=true->∀ b c d e f g h i j k,n a b c d e f g h i j k->
 RR (aH (.func (.func 71) #[] #[]) [j,f,(.int .i64 0),e,d]) k fun c k=>
 n (ay a 7) b c d e f g h i j k)/\
 (∀ a:Nat->Bool,a 8=false->a 7=true->a 7=true->a 0=true->a 1=true->a 2=true->a 3=true->a 4=true->a 5=true->a 6=true->a 7=true->∀ b c d e f g h i j k,n a b c d e f g h i j k->
 n (ay a 8) c c d e f g h i j k)/\
 True)/\
 ∀ e:Nat->Bool,e 8=true->e 7=true->e 6=true->e 5=true->e 4=true->e 3=true->e 2=true->e 1=true->e 0=true->∀ f g h i j k l o p q,n e f g h i j k l o p q->
 RR (aq .add 3 false true c (.int .i64 1)) q fun e g=>
 a e f g/\b e f g<b c d m)) (
 R (.returned d) o))
theorem u3 {p0 p1:Value} {w:World} {R:Ending->World->Prop} (h:qm p0 p1 w R):Calls Tryz.prog 100 #[p0,p1] w R:=
  aK (.seq none .leaf (.seq none .leaf (.seq none (.seq none .leaf (.one (.loop [6,5] .leaf))) .leaf))) [p0,p1] be Tryz.func100 (by kernel_rfl) (by kernel_rfl) h


/- loop.example/prologserver/impl.isLetters : function 101 -/
def nY (p0:Value) (w:World) (R:Ending->World->Prop):Prop:=
 RR (ar .len #[9] 3 [false] [p0]) w fun a b=>
 (∃ (c:Value->World->Prop) (d:Value->World->Nat),c (.int .i64 0) b/\
 ∀ b _ _ _ _ _ _ _ _ _ _ _ _ _ _ _:Value,∀ e:World,c b e->
 RR (aq .lss 3 false false b a) e fun a f=>
 CondV a (
 (∃ a:Value->World->Prop,(
 RR (sOp (.index 9 (.const p0) (.const b)) 5) f fun c d=>
 RR (aq .lss 5 false true c (.int .u8 97)) d fun c d=>
 aj c false (
 RR (sOp (.index 9 (.const p0) (.const b)) 5) d fun b d=>
 RR (aq .gtr 5 false true b (.int .u8 122)) d fun b d=>
 RR (sOp (.pick (.const c) (.const (.bool true)) (.const b)) 4) d fun b c=>
 a b c) (
 RR (sOp (.pick (.const c) (.const (.bool true)) (.const undef)) 4) d fun b c=>
 a b c))/\
 ∀ f _ _ _ _ _ _ _ _ _:Value,∀ g:World,a f g->
 CondV f (
 R (.returned (.bool false)) g) (
 RR (aq .add 3 false true b (.int .i64 1)) g fun a f=>
 c a f/\d a f<d b e))) (
 RR (ar .len #[9] 3 [false] [p0]) f fun a b=>
 RR (aH (.func (.func 126) #[] #[]) [a,(.int .i64 1),(.int .i64 6)]) b fun a b=>
 R (.returned a) b))
theorem sW {p0:Value} {w:World} {R:Ending->World->Prop} (h:nY p0 w R):Calls Tryz.prog 101 #[p0] w R:=
  aK (.seq none .leaf (.seq none (.seq none .leaf (.one (.loop [6] (.seq none .leaf (.seq none .leaf (.seq none (.one (.seq none .leaf (.seq (some [18]) .leaf .leaf))) .leaf)))))) .leaf)) [p0] be Tryz.func101 (by kernel_rfl) (by kernel_rfl) h


/- loop.example/prologserver/impl.isOp : function 102 -/
def CR (p0:Value) (w:World) (R:Ending->World->Prop):Prop:=
 RR (aH (.func (.func 136) #[] #[]) [p0]) w fun a b=>
 RR (sOp (.extract (.const a) 0) 3) b fun b c=>
 RR (sOp (.extract (.const a) 1) 4) c fun _ a=>
 RR (aq .gtr 3 false true b (.int .i64 0)) a fun a b=>
 R (.returned a) b
theorem Es {p0:Value} {w:World} {R:Ending->World->Prop} (h:CR p0 w R):Calls Tryz.prog 102 #[p0] w R:=
  aK .leaf [p0] be Tryz.func102 (by kernel_rfl) (by kernel_rfl) h


/- loop.example/prologserver/impl.isBuilt : function 103 -/
def ti (p0:Value) (w:World) (R:Ending->World->Prop):Prop:=
 RR (sOp (.box 25 (.const p0)) 0) w fun a b=>
 RR (sOp (.fieldAddr 25 (.const a) 0) 0) b fun b c=>
 RR (sOp (.load 3 (.const b)) 3) c fun b c=>
 RR (aq .eql 3 false true b (.int .i64 3)) c fun b c=>
 aj b true (
 RR (sOp (.fieldAddr 25 (.const a) 2) 0) c fun c d=>
 RR (sOp (.load 9 (.const c)) 9) d fun c d=>
 RR (sOp (.fieldAddr 25 (.const a) 3) 0) d fun a d=>
 RR (sOp (.load 23 (.const a)) 23) d fun a d=>
 RR (ar .len #[23] 3 [false] [a]) d fun a d=>
 RR (aH (.func (.func 137) #[] #[]) [c,a]) d fun a c=>
 RR (sOp (.pick (.const b) (.const a) (.const (.bool false))) 4) c fun a b=>
 R (.returned a) b) (
 RR (sOp (.pick (.const b) (.const undef) (.const (.bool false))) 4) c fun a b=>
 R (.returned a) b)
theorem xI {p0:Value} {w:World} {R:Ending->World->Prop} (h:ti p0 w R):Calls Tryz.prog 103 #[p0] w R:=
  aK .leaf [p0] be Tryz.func103 (by kernel_rfl) (by kernel_rfl) h


/- slices.Index[[]string,string] : function 104 -/
def lo (p0 p1:Value) (w:World) (R:Ending->World->Prop):Prop:=
 RR (ar .len #[67] 3 [false] [p0]) w fun a b=>
 (∃ (c:Value->World->Prop) (d:Value->World->Nat),c (.int .i64 0) b/\
 ∀ b _ _ _ _ _ _ _ _ _ _ _ _:Value,∀ e:World,c b e->
 RR (aq .lss 3 false false b a) e fun a f=>
 CondV a (
 RR (sOp (.indexAddr 67 (.const p0) (.const b)) 0) f fun a f=>
 RR (sOp (.load 9 (.const a)) 9) f fun a f=>
 RR (aq .eql 9 false false p1 a) f fun a f=>
 CondV a (
 R (.returned b) f) (
 RR (aq .add 3 false true b (.int .i64 1)) f fun a f=>
 c a f/\d a f<d b e)) (
 R (.returned (.int .i64 (-1))) f))
theorem oT {p0 p1:Value} {w:World} {R:Ending->World->Prop} (h:lo p0 p1 w R):Calls Tryz.prog 104 #[p0,p1] w R:=
  aK (.seq none .leaf (.seq none (.seq none .leaf (.one (.loop [8] .leaf))) .leaf)) [p0,p1] be Tryz.func104 (by kernel_rfl) (by kernel_rfl) h


/- loop.example/prologserver/impl.goalsValid : function 105 -/
def mZ (p0:Value) (w:World) (R:Ending->World->Prop):Prop:=
 RR (ar .len #[23] 3 [false] [p0]) w fun a b=>
 RR (aq .leq 3 false true a (.int .i64 6)) b fun a b=>
 aj a true (
 RR (aH (.func (.func 57) #[] #[]) [p0,(.func (.func 138) #[] #[])]) b fun b c=>
 RR (sOp (.unOp .not 4 (.const b)) 4) c fun b c=>
 RR (sOp (.pick (.const a) (.const b) (.const (.bool false))) 4) c fun a b=>
 R (.returned a) b) (
 RR (sOp (.pick (.const a) (.const undef) (.const (.bool false))) 4) b fun a b=>
 R (.returned a) b)
theorem qY {p0:Value} {w:World} {R:Ending->World->Prop} (h:mZ p0 w R):Calls Tryz.prog 105 #[p0] w R:=
  aK .leaf [p0] be Tryz.func105 (by kernel_rfl) (by kernel_rfl) h


/- loop.example/prologserver/spec.l4Mutate : function 106 -/
def qC (p0 p1:Value) (w:World) (R:Ending->World->Prop):Prop:=
 RR (sOp (.box 39 (.const p1)) 0) w fun a b=>
 RR (sOp (.alloc 39) 0) b fun b c=>
 RR (sOp (.load 39 (.const a)) 39) c fun a c=>
 RR (aH (.func (.func 140) #[] #[]) [a]) c fun a c=>
 RR (sOp (.alloc 39) 0) c fun c d=>
 RR (sOp (.store 39 (.const c) (.const a)) 0) d fun _ a=>
 (∃ d:World->Prop,(
 RR (aH (.func (.func 69) #[] #[]) [p0,(.int .i64 40)]) a fun a b=>
 RR (aq .eql 3 false true a (.int .i64 0)) b fun b e=>
 CondV b (
 RR (aH (.func (.func 141) #[] #[]) [p0]) e fun a b=>
 RR (aH (.func (.func 34) #[] #[]) [p0,a]) b fun a b=>
 RR (sOp (.fieldAddr 39 (.const c) 0) 0) b fun b c=>
 RR (sOp (.store 25 (.const b) (.const a)) 0) c fun _ a=>
 d a) (
 RR (aq .eql 3 false true a (.int .i64 1)) e fun b e=>
 CondV b (
 (∃ a:(Nat->Bool)->Value->Value->Value->Value->Value->Value->Value->Value->Value->World->Prop,a (fun _=>false) undef undef undef undef undef undef undef undef undef { e with drawn:=e.drawn+1 }/\(
 (∀ b:Nat->Bool,b 0=false->∀ d e f g h i j k l m,a b d e f g h i j k l m->
 RR (sOp (.fieldAddr 39 (.const c) 1) 0) m fun c l=>
 a (ay b 0) d e f g h i j k c l)/\
 (∀ b:Nat->Bool,b 1=false->b 0=true->∀ c d e f g h i j k l,a b c d e f g h i j k l->
 RR (sOp (.load 23 (.const k)) 23) l fun j l=>
 a (ay b 1) c d e f g h i j k l)/\
 (∀ b:Nat->Bool,b 2=false->∀ c d e f g h i j k l,a b c d e f g h i j k l->
 a (ay b 2) c d e f g h p0 j k l)/\
 (∀ b:Nat->Bool,b 3=false->∀ c d e f g h i j k l,a b c d e f g h i j k l->
 a (ay b 3) c d e f g p0 i j k l)/\
 (∀ b:Nat->Bool,b 4=false->b 3=true->∀ c d e f g h i j k l,a b c d e f g h i j k l->
 RR (aH (.func (.func 141) #[] #[]) [h]) l fun g l=>
 a (ay b 4) c d e f g h i j k l)/\
 (∀ b:Nat->Bool,b 5=false->b 2=true->b 4=true->b 4=true->∀ c d e f g h i j k l,a b c d e f g h i j k l->
 RR (aH (.func (.func 34) #[] #[]) [i,g]) l fun f l=>
 a (ay b 5) c d e f g h i j k l)/\
 (∀ b:Nat->Bool,b 6=false->b 5=true->∀ c d e f g h i j k l,a b c d e f g h i j k l->
 RR (aS 23 1 [(0,f)]) l fun e l=>
 a (ay b 6) c d e f g h i j k l)/\
 (∀ b:Nat->Bool,b 7=false->b 1=true->b 6=true->b 5=true->∀ c d e f g h i j k l,a b c d e f g h i j k l->
 RR (ar .append #[23,23] 23 [false,false] [j,e]) l fun d l=>
 a (ay b 7) c d e f g h i j k l)/\
 (∀ b:Nat->Bool,b 8=false->b 0=true->b 1=true->b 2=true->b 3=true->b 4=true->b 5=true->b 6=true->b 7=true->∀ d e f g h i j k l m,a b d e f g h i j k l m->
 RR (sOp (.fieldAddr 39 (.const c) 1) 0) m fun c d=>
 a (ay b 8) c e f g h i j k l d)/\
 (∀ b:Nat->Bool,b 9=false->b 8=true->b 7=true->b 7=true->b 0=true->b 1=true->b 2=true->b 3=true->b 4=true->b 5=true->b 6=true->b 7=true->∀ c d e f g h i j k l,a b c d e f g h i j k l->
 RR (sOp (.store 23 (.const c) (.const d)) 0) l fun _ l=>
 a (ay b 9) c d e f g h i j k l)/\
 True)/\
 ∀ b:Nat->Bool,b 9=true->b 8=true->b 7=true->b 6=true->b 5=true->b 4=true->b 3=true->b 2=true->b 1=true->b 0=true->∀ c e f g h i j k l m,a b c e f g h i j k l m->
 d m)) (
 RR (aq .eql 3 false true a (.int .i64 2)) e fun b e=>
 CondV b (
 (∃ (a:World->Prop) (b:World->Nat),a e/\
 ∀ e f g h i j _ _ _ _:Value,∀ k:World,a k->
 RR (sOp (.fieldAddr 39 (.const c) 1) 0) k fun l m=>
 RR (sOp (.load 23 (.const l)) 23) m fun l m=>
 RR (ar .len #[23] 3 [false] [l]) m fun l m=>
 RR (aq .leq 3 false true l (.int .i64 6)) m fun l m=>
 CondV l (
 (∃ d:(Nat->Bool)->Value->Value->Value->Value->Value->Value->World->Prop,d (fun _=>false) e f g h i j { m with drawn:=m.drawn+1 }/\(
 (∀ a:Nat->Bool,a 0=false->∀ b e f g h i j,d a b e f g h i j->
 RR (sOp (.fieldAddr 39 (.const c) 1) 0) j fun c i=>
 d (ay a 0) b e f g h c i)/\
 (∀ a:Nat->Bool,a 1=false->a 0=true->∀ b c e f g h i,d a b c e f g h i->
 RR (sOp (.load 23 (.const h)) 23) i fun g i=>
 d (ay a 1) b c e f g h i)/\
 (∀ a:Nat->Bool,a 2=false->∀ b c e f g h i,d a b c e f g h i->
 RR (aH (.func (.func 78) #[] #[]) [(.string ⟨#[116,114,117,101]⟩),(Value.slice none 0 0)]) i fun f i=>
 d (ay a 2) b c e f g h i)/\
 (∀ a:Nat->Bool,a 3=false->a 2=true->∀ b c e f g h i,d a b c e f g h i->
 RR (aS 23 1 [(0,f)]) i fun e i=>
 d (ay a 3) b c e f g h i)/\
 (∀ a:Nat->Bool,a 4=false->a 1=true->a 3=true->a 2=true->∀ b c e f g h i,d a b c e f g h i->
 RR (ar .append #[23,23] 23 [false,false] [g,e]) i fun c i=>
 d (ay a 4) b c e f g h i)/\
 (∀ a:Nat->Bool,a 5=false->a 0=true->a 1=true->a 2=true->a 3=true->a 4=true->∀ b e f g h i j,d a b e f g h i j->
 RR (sOp (.fieldAddr 39 (.const c) 1) 0) j fun b c=>
 d (ay a 5) b e f g h i c)/\
 (∀ a:Nat->Bool,a 6=false->a 5=true->a 4=true->a 4=true->a 0=true->a 1=true->a 2=true->a 3=true->a 4=true->∀ b c e f g h i,d a b c e f g h i->
 RR (sOp (.store 23 (.const b) (.const c)) 0) i fun _ i=>
 d (ay a 6) b c e f g h i)/\
 True)/\
 ∀ c:Nat->Bool,c 6=true->c 5=true->c 4=true->c 3=true->c 2=true->c 1=true->c 0=true->∀ e f g h i j l,d c e f g h i j l->
 a l/\b l<b k)) (
 d m))) (
 RR (aq .eql 3 false true a (.int .i64 3)) e fun a b=>
 CondV a (
 RR (aS 67 5 [(0,(.string ⟨#[116,114,117,101]⟩)),(1,(.string ⟨#[105,115]⟩)),(2,(.string ⟨#[61]⟩)),(3,(.string ⟨#[109,111,100]⟩)),(4,(.string ⟨#[113]⟩))]) b fun a b=>
 RR (aH (.func (.func 76) #[] #[]) [p0,a]) b fun a b=>
 RR (sOp (.fieldAddr 39 (.const c) 0) 0) b fun b c=>
 RR (sOp (.fieldAddr 25 (.const b) 2) 0) c fun b c=>
 RR (sOp (.store 9 (.const b) (.const a)) 0) c fun _ a=>
 d a) (
 d b)))))/\
 ∀ _ _ _ _ _ _ _ _ _ _ _ _ _ _ _ _ _ _ _ _ _ _ _ _ _ _ _ _ _ _ _ _ _ _ _ _ _ _ _:Value,∀ a:World,d a->
 RR (sOp (.load 39 (.const c)) 39) a fun a c=>
 RR (sOp (.store 39 (.const b) (.const a)) 0) c fun _ a=>
 (bd Tryz.prog 39 b a fun b=>R (.returned b) a))
theorem uA {p0 p1:Value} {w:World} {R:Ending->World->Prop} (h:qC p0 p1 w R):Calls Tryz.prog 106 #[p0,p1] w R:=
  aK (.seq none .leaf (.seq none .leaf (.seq (some []) (.seq none .leaf (.one (.seq none .leaf (.two .leaf (.seq none .leaf (.two .leaf (.seq none .leaf (.two (.one (.loop [] .leaf)) .leaf)))))))) .leaf))) [p0,p1] be Tryz.func106 (by kernel_rfl) (by kernel_rfl) h


/- cmp.Or[int] : function 107 -/
def vS (p0:Value) (w:World) (R:Ending->World->Prop):Prop:=
 RR (ar .len #[71] 3 [false] [p0]) w fun a b=>
 (∃ (c:Value->World->Prop) (d:Value->World->Nat),c (.int .i64 0) b/\
 ∀ b _ _ _ _ _ _ _ _ _ _:Value,∀ e:World,c b e->
 RR (aq .lss 3 false false b a) e fun a f=>
 CondV a (
 RR (sOp (.indexAddr 71 (.const p0) (.const b)) 0) f fun a f=>
 RR (sOp (.load 3 (.const a)) 3) f fun a f=>
 RR (aq .neq 3 false false a (.int .i64 0)) f fun f g=>
 CondV f (
 R (.returned a) g) (
 RR (aq .add 3 false true b (.int .i64 1)) g fun a f=>
 c a f/\d a f<d b e)) (
 R (.returned (.int .i64 0)) f))
theorem y0 {p0:Value} {w:World} {R:Ending->World->Prop} (h:vS p0 w R):Calls Tryz.prog 107 #[p0] w R:=
  aK (.seq none .leaf (.seq none .leaf (.seq none (.seq none .leaf (.one (.loop [8] .leaf))) .leaf))) [p0] be Tryz.func107 (by kernel_rfl) (by kernel_rfl) h


/- cmp.Compare[int] : function 108 -/
def mr (p0 p1:Value) (w:World) (R:Ending->World->Prop):Prop:=
 RR (aH (.func (.func 142) #[] #[]) [p0]) w fun a b=>
 RR (aH (.func (.func 142) #[] #[]) [p1]) b fun b c=>
 CondV a (
 CondV b (
 R (.returned (.int .i64 0)) c) (
 R (.returned (.int .i64 (-1))) c)) (
 CondV b (
 R (.returned (.int .i64 1)) c) (
 RR (aq .lss 3 false false p0 p1) c fun a b=>
 CondV a (
 R (.returned (.int .i64 (-1))) b) (
 RR (aq .gtr 3 false false p0 p1) b fun a b=>
 CondV a (
 R (.returned (.int .i64 1)) b) (
 R (.returned (.int .i64 0)) b))))
theorem qd {p0 p1:Value} {w:World} {R:Ending->World->Prop} (h:mr p0 p1 w R):Calls Tryz.prog 108 #[p0,p1] w R:=
  aK .leaf [p0,p1] be Tryz.func108 (by kernel_rfl) (by kernel_rfl) h


/- loop.example/prologserver/impl.rank : function 109 -/
def CU (p0:Value) (w:World) (R:Ending->World->Prop):Prop:=
 RR (sOp (.box 25 (.const p0)) 0) w fun a b=>
 RR (sOp (.fieldAddr 25 (.const a) 0) 0) b fun b c=>
 RR (sOp (.load 3 (.const b)) 3) c fun b c=>
 RR (aq .eql 3 false true b (.int .i64 1)) c fun b c=>
 CondV b (
 R (.returned (.int .i64 0)) c) (
 RR (sOp (.fieldAddr 25 (.const a) 0) 0) c fun b c=>
 RR (sOp (.load 3 (.const b)) 3) c fun b c=>
 RR (aq .eql 3 false true b (.int .i64 2)) c fun b c=>
 CondV b (
 R (.returned (.int .i64 1)) c) (
 RR (sOp (.fieldAddr 25 (.const a) 3) 0) c fun a b=>
 RR (sOp (.load 23 (.const a)) 23) b fun a b=>
 RR (ar .len #[23] 3 [false] [a]) b fun a b=>
 RR (aq .eql 3 false true a (.int .i64 0)) b fun a b=>
 CondV a (
 R (.returned (.int .i64 2)) b) (
 R (.returned (.int .i64 3)) b)))
theorem DO {p0:Value} {w:World} {R:Ending->World->Prop} (h:CU p0 w R):Calls Tryz.prog 109 #[p0] w R:=
  aK .leaf [p0] be Tryz.func109 (by kernel_rfl) (by kernel_rfl) h


/- cmp.Compare[string] : function 110 -/
def jm (p0 p1:Value) (w:World) (R:Ending->World->Prop):Prop:=
 RR (aH (.func (.func 143) #[] #[]) [p0]) w fun a b=>
 RR (aH (.func (.func 143) #[] #[]) [p1]) b fun b c=>
 CondV a (
 CondV b (
 R (.returned (.int .i64 0)) c) (
 R (.returned (.int .i64 (-1))) c)) (
 CondV b (
 R (.returned (.int .i64 1)) c) (
 RR (aq .lss 9 false false p0 p1) c fun a b=>
 CondV a (
 R (.returned (.int .i64 (-1))) b) (
 RR (aq .gtr 9 false false p0 p1) b fun a b=>
 CondV a (
 R (.returned (.int .i64 1)) b) (
 R (.returned (.int .i64 0)) b))))
theorem mR {p0 p1:Value} {w:World} {R:Ending->World->Prop} (h:jm p0 p1 w R):Calls Tryz.prog 110 #[p0,p1] w R:=
  aK .leaf [p0,p1] be Tryz.func110 (by kernel_rfl) (by kernel_rfl) h


/- slices.CompareFunc[[]loop.example/prologserver/impl.Term,[]loop.example/prologserver/impl.Term,loop.example/prologserver/impl.Term,loop.example/prologserver/impl.Term] : function 111 -/
def hY (p0 p1 p2:Value) (w:World) (R:Ending->World->Prop):Prop:=
 RR (ar .len #[23] 3 [false] [p0]) w fun a b=>
 (∃ (c:Value->World->Prop) (d:Value->World->Nat),c (.int .i64 0) b/\
 ∀ b _ _ _ _ _ _ _ _ _ _ _ _ _ _ _ _ _ _ _ _ _ _ _ _ _:Value,∀ e:World,c b e->
 RR (aq .lss 3 false false b a) e fun a f=>
 CondV a (
 RR (sOp (.indexAddr 23 (.const p0) (.const b)) 0) f fun a f=>
 RR (sOp (.load 25 (.const a)) 25) f fun a f=>
 RR (sOp (.alloc 25) 0) f fun f g=>
 RR (sOp (.store 25 (.const f) (.const a)) 0) g fun _ a=>
 RR (ar .len #[23] 3 [false] [p1]) a fun a g=>
 RR (aq .geq 3 false false b a) g fun a g=>
 CondV a (
 R (.returned (.int .i64 1)) g) (
 RR (sOp (.indexAddr 23 (.const p1) (.const b)) 0) g fun a g=>
 RR (sOp (.load 25 (.const a)) 25) g fun a g=>
 RR (sOp (.alloc 25) 0) g fun g h=>
 RR (sOp (.store 25 (.const g) (.const a)) 0) h fun _ a=>
 RR (sOp (.load 25 (.const f)) 25) a fun a f=>
 RR (sOp (.load 25 (.const g)) 25) f fun f g=>
 RR (aH p2 [a,f]) g fun a f=>
 RR (aq .neq 3 false true a (.int .i64 0)) f fun f g=>
 CondV f (
 R (.returned a) g) (
 RR (aq .add 3 false true b (.int .i64 1)) g fun a f=>
 c a f/\d a f<d b e))) (
 RR (ar .len #[23] 3 [false] [p0]) f fun a b=>
 RR (ar .len #[23] 3 [false] [p1]) b fun b c=>
 RR (aq .lss 3 false false a b) c fun a b=>
 CondV a (
 R (.returned (.int .i64 (-1))) b) (
 R (.returned (.int .i64 0)) b)))
theorem lI {p0 p1 p2:Value} {w:World} {R:Ending->World->Prop} (h:hY p0 p1 p2 w R):Calls Tryz.prog 111 #[p0,p1,p2] w R:=
  aK (.seq none .leaf (.seq none (.seq none .leaf (.one (.loop [13] .leaf))) .leaf)) [p0,p1,p2] be Tryz.func111 (by kernel_rfl) (by kernel_rfl) h


/- loop.example/prologserver/impl.mapVars : function 112 -/
def ul (p0 p1:Value) (w:World) (R:Ending->World->Prop):Prop:=
 RR (sOp (.box 25 (.const p0)) 0) w fun a b=>
 RR (sOp (.alloc 25) 0) b fun b c=>
 RR (sOp (.fieldAddr 25 (.const a) 0) 0) c fun c d=>
 RR (sOp (.load 3 (.const c)) 3) d fun c d=>
 RR (aq .eql 3 false true c (.int .i64 1)) d fun c d=>
 CondV c (
 RR (sOp (.fieldAddr 25 (.const a) 1) 0) d fun a c=>
 RR (sOp (.load 3 (.const a)) 3) c fun a c=>
 RR (aH p1 [a]) c fun a c=>
 RR (sOp (.store 25 (.const b) (.const a)) 0) c fun _ a=>
 (bd Tryz.prog 25 b a fun b=>R (.returned b) a)) (
 RR (sOp (.fieldAddr 25 (.const a) 3) 0) d fun c d=>
 RR (sOp (.load 23 (.const c)) 23) d fun c d=>
 RR (sOp (.fieldAddr 25 (.const a) 3) 0) d fun d e=>
 RR (sOp (.store 23 (.const d) (.const (Value.slice none 0 0))) 0) e fun _ d=>
 RR (ar .len #[23] 3 [false] [c]) d fun d e=>
 (∃ (f:Value->World->Prop) (g:Value->World->Nat),f (.int .i64 0) e/\
 ∀ e _ h i j k l m n o _ _ _ _:Value,∀ p:World,f e p->
 RR (aq .lss 3 false false e d) p fun d q=>
 CondV d (
 RR (sOp (.indexAddr 23 (.const c) (.const e)) 0) q fun b c=>
 RR (sOp (.load 25 (.const b)) 25) c fun b c=>
 RR (sOp (.alloc 25) 0) c fun c d=>
 RR (sOp (.store 25 (.const c) (.const b)) 0) d fun _ b=>
 (∃ d:(Nat->Bool)->Value->Value->Value->Value->Value->Value->Value->Value->World->Prop,d (fun _=>false) h i j k l m n o { b with drawn:=b.drawn+1 }/\(
 (∀ b:Nat->Bool,b 0=false->∀ c e f g h i j k l,d b c e f g h i j k l->
 RR (sOp (.fieldAddr 25 (.const a) 3) 0) l fun a k=>
 d (ay b 0) c e f g h i j a k)/\
 (∀ a:Nat->Bool,a 1=false->a 0=true->∀ b c e f g h i j k,d a b c e f g h i j k->
 RR (sOp (.load 23 (.const j)) 23) k fun i k=>
 d (ay a 1) b c e f g h i j k)/\
 (∀ a:Nat->Bool,a 2=false->∀ b e f g h i j k l,d a b e f g h i j k l->
 RR (sOp (.load 25 (.const c)) 25) l fun c i=>
 d (ay a 2) b e f g h c j k i)/\
 (∀ a:Nat->Bool,a 3=false->∀ b c e f g h i j k,d a b c e f g h i j k->
 d (ay a 3) b c e f p1 h i j k)/\
 (∀ a:Nat->Bool,a 4=false->a 2=true->a 3=true->∀ b c e f g h i j k,d a b c e f g h i j k->
 RR (aH (.func (.func 112) #[] #[]) [h,g]) k fun f k=>
 d (ay a 4) b c e f g h i j k)/\
 (∀ a:Nat->Bool,a 5=false->a 4=true->∀ b c e f g h i j k,d a b c e f g h i j k->
 RR (aS 23 1 [(0,f)]) k fun e k=>
 d (ay a 5) b c e f g h i j k)/\
 (∀ a:Nat->Bool,a 6=false->a 1=true->a 5=true->a 4=true->∀ b c e f g h i j k,d a b c e f g h i j k->
 RR (ar .append #[23,23] 23 [false,false] [i,e]) k fun c k=>
 d (ay a 6) b c e f g h i j k)/\
 (∀ b:Nat->Bool,b 7=false->b 0=true->b 1=true->b 2=true->b 3=true->b 4=true->b 5=true->b 6=true->∀ c e f g h i j k l,d b c e f g h i j k l->
 RR (sOp (.fieldAddr 25 (.const a) 3) 0) l fun a c=>
 d (ay b 7) a e f g h i j k c)/\
 (∀ a:Nat->Bool,a 8=false->a 7=true->a 6=true->a 6=true->a 0=true->a 1=true->a 2=true->a 3=true->a 4=true->a 5=true->a 6=true->∀ b c e f g h i j k,d a b c e f g h i j k->
 RR (sOp (.store 23 (.const b) (.const c)) 0) k fun _ k=>
 d (ay a 8) b c e f g h i j k)/\
 True)/\
 ∀ a:Nat->Bool,a 8=true->a 7=true->a 6=true->a 5=true->a 4=true->a 3=true->a 2=true->a 1=true->a 0=true->∀ b c h i j k l m n,d a b c h i j k l m n->
 RR (aq .add 3 false true e (.int .i64 1)) n fun a b=>
 f a b/\g a b<g e p)) (
 RR (sOp (.load 25 (.const a)) 25) q fun a c=>
 RR (sOp (.store 25 (.const b) (.const a)) 0) c fun _ a=>
 (bd Tryz.prog 25 b a fun b=>R (.returned b) a))))
theorem yf {p0 p1:Value} {w:World} {R:Ending->World->Prop} (h:ul p0 p1 w R):Calls Tryz.prog 112 #[p0,p1] w R:=
  aK (.seq none .leaf (.seq none .leaf (.seq none .leaf (.seq none .leaf (.seq none (.seq none .leaf (.one (.loop [20] .leaf))) .leaf))))) [p0,p1] be Tryz.func112 (by kernel_rfl) (by kernel_rfl) h


/- loop.example/prologserver/impl.follows$1 : function 113 -/
def nT (p0 p1:Value) (w:World) (R:Ending->World->Prop):Prop:=
 RR (sOp (.alloc 25) 0) w fun a b=>
 RR (sOp (.load 59 (.const p1)) 59) b fun b c=>
 RR (sOp (.lookup 59 (.const b) (.const p0) false) 25) c fun b c=>
 RR (sOp (.store 25 (.const a) (.const b)) 0) c fun _ b=>
 (bd Tryz.prog 25 a b fun a=>R (.returned a) b)
theorem td {p0 p1:Value} {w:World} {R:Ending->World->Prop} (h:nT p0 p1 w R):Calls Tryz.prog 113 #[p0,p1] w R:=
  aK .leaf [p0,p1] be Tryz.func113 (by kernel_rfl) (by kernel_rfl) h


/- maps.Clone[map[int]loop.example/prologserver/impl.Term,int,loop.example/prologserver/impl.Term] : function 114 -/
def lQ (p0:Value) (w:World) (R:Ending->World->Prop):Prop:=
 RR (aq .eql 59 false true p0 (Value.map none)) w fun a b=>
 CondV a (
 R (.returned (Value.map none)) b) (
 RR (sOp (.makeInterface 59 (.const p0)) 20) b fun a b=>
 RR (aH (.func (.func 144) #[] #[]) [a]) b fun a b=>
 RR (sOp (.typeAssert (.const a) 20 59 false) 59) b fun a b=>
 R (.returned a) b)
theorem qf {p0:Value} {w:World} {R:Ending->World->Prop} (h:lQ p0 w R):Calls Tryz.prog 114 #[p0] w R:=
  aK .leaf [p0] be Tryz.func114 (by kernel_rfl) (by kernel_rfl) h


/- loop.example/prologserver/spec.l16Put : function 115 -/
def ww (p0 p1:Value) (w:World) (R:Ending->World->Prop):Prop:=
 RR (sOp (.box 25 (.const p1)) 0) w fun a b=>
 (∃ (c:Value->World->Prop) (d:Value->World->Nat),c (.int .i64 0) b/\
 ∀ b _ _ e f g h i j k l m n o p q:Value,∀ r:World,c b r->
 (∃ s:(Nat->Bool)->Value->Value->Value->Value->Value->Value->Value->Value->Value->Value->Value->Value->Value->World->Prop,s (fun _=>false) e f g h i j k l m n o p q { r with drawn:=r.drawn+1 }/\(
 (∀ a:Nat->Bool,a 0=false->∀ c d e f g h i j k l m n o p,s a c d e f g h i j k l m n o p->
 s (ay a 0) c d e f g h i j k l m n b p)/\
 (∀ a:Nat->Bool,a 1=false->∀ b c d e f g h i j k l m n o,s a b c d e f g h i j k l m n o->
 s (ay a 1) b c d e f g h i j k l p0 n o)/\
 (∀ a:Nat->Bool,a 2=false->a 1=true->∀ b c d e f g h i j k l m n o,s a b c d e f g h i j k l m n o->
 RR (ar .len #[23] 3 [false] [m]) o fun l o=>
 s (ay a 2) b c d e f g h i j k l m n o)/\
 (∀ a:Nat->Bool,a 3=false->a 0=true->a 2=true->∀ b c d e f g h i j k l m n o,s a b c d e f g h i j k l m n o->
 RR (aq .lss 3 false false n l) o fun k o=>
 s (ay a 3) b c d e f g h i j k l m n o)/\
 (∀ a:Nat->Bool,a 4=false->a 3=true->∀ b c d e f g h i j k l m n o,s a b c d e f g h i j k l m n o->
 s (ay a 4) b c d e f g h i k k l m n o)/\
 (∀ a:Nat->Bool,a 5=false->a 4=true->∀ b c d e f g h i j k l m n o,s a b c d e f g h i j k l m n o->
 aj j true (s (ay a 5) b c d e f g h p0 j k l m n o) (s (ay a 5) b c d e f g h undef j k l m n o))/\
 (∀ a:Nat->Bool,a 6=false->a 4=true->∀ c d e f g h i j k l m n o p,s a c d e f g h i j k l m n o p->
 aj k true (s (ay a 6) c d e f g h b j k l m n o p) (s (ay a 6) c d e f g h undef j k l m n o p))/\
 (∀ a:Nat->Bool,a 7=false->a 5=true->a 6=true->a 4=true->∀ b c d e f g h i j k l m n o,s a b c d e f g h i j k l m n o->
 aj j true (RR (sOp (.indexAddr 23 (.const i) (.const h)) 0) o fun g o=>
 s (ay a 7) b c d e f g h i j k l m n o) (s (ay a 7) b c d e f undef h i j k l m n o))/\
 (∀ a:Nat->Bool,a 8=false->a 7=true->a 4=true->∀ b c d e f g h i j k l m n o,s a b c d e f g h i j k l m n o->
 aj j true (RR (sOp (.load 25 (.const g)) 25) o fun f o=>
 s (ay a 8) b c d e f g h i j k l m n o) (s (ay a 8) b c d e undef g h i j k l m n o))/\
 (∀ b:Nat->Bool,b 9=false->b 4=true->∀ c d e f g h i j k l m n o p,s b c d e f g h i j k l m n o p->
 aj k true (RR (sOp (.load 25 (.const a)) 25) p fun a f=>
 s (ay b 9) c d e a g h i j k l m n o f) (s (ay b 9) c d e undef g h i j k l m n o p))/\
 (∀ a:Nat->Bool,a 10=false->a 8=true->a 9=true->a 4=true->a 4=true->∀ b c d e f g h i j k l m n o,s a b c d e f g h i j k l m n o->
 aj j true (RR (aH (.func (.func 145) #[] #[]) [f,e]) o fun d o=>
 s (ay a 10) b c d e f g h i j k l m n o) (s (ay a 10) b c undef e f g h i j k l m n o))/\
 (∀ a:Nat->Bool,a 11=false->a 10=true->a 4=true->∀ b c d e f g h i j k l m n o,s a b c d e f g h i j k l m n o->
 aj j true (RR (aq .lss 3 false true d (.int .i64 0)) o fun c o=>
 s (ay a 11) b c d e f g h i j k l m n o) (s (ay a 11) b undef d e f g h i j k l m n o))/\
 (∀ a:Nat->Bool,a 12=false->a 4=true->a 11=true->∀ b c d e f g h i j k l m n o,s a b c d e f g h i j k l m n o->
 RR (sOp (.pick (.const j) (.const c) (.const (.bool false))) 4) o fun b o=>
 s (ay a 12) b c d e f g h i j k l m n o)/\
 True)/\
 ∀ e:Nat->Bool,e 12=true->e 11=true->e 10=true->e 9=true->e 8=true->e 7=true->e 6=true->e 5=true->e 4=true->e 3=true->e 2=true->e 1=true->e 0=true->∀ f g h i j k l m n o p q t u,s e f g h i j k l m n o p q t u->
 CondV f (
 RR (aq .add 3 false true b (.int .i64 1)) u fun a e=>
 c a e/\d a e<d b r) (
 (∃ c:(Nat->Bool)->Value->Value->Value->Value->Value->Value->Value->Value->Value->Value->Value->Value->World->Prop,c (fun _=>false) undef undef undef undef undef undef undef undef undef undef undef undef { u with drawn:=u.drawn+1 }/\(
 (∀ a:Nat->Bool,a 0=false->∀ d e f g h i j k l m n o p,c a d e f g h i j k l m n o p->
 c (ay a 0) d e f g h i j k l m n b p)/\
 (∀ a:Nat->Bool,a 1=false->∀ b d e f g h i j k l m n o,c a b d e f g h i j k l m n o->
 c (ay a 1) b d e f g h i j k l p0 n o)/\
 (∀ a:Nat->Bool,a 2=false->a 1=true->∀ b d e f g h i j k l m n o,c a b d e f g h i j k l m n o->
 RR (ar .len #[23] 3 [false] [m]) o fun l o=>
 c (ay a 2) b d e f g h i j k l m n o)/\
 (∀ a:Nat->Bool,a 3=false->a 0=true->a 2=true->∀ b d e f g h i j k l m n o,c a b d e f g h i j k l m n o->
 RR (aq .lss 3 false false n l) o fun k o=>
 c (ay a 3) b d e f g h i j k l m n o)/\
 (∀ a:Nat->Bool,a 4=false->a 3=true->∀ b d e f g h i j k l m n o,c a b d e f g h i j k l m n o->
 c (ay a 4) b d e f g h i k k l m n o)/\
 (∀ a:Nat->Bool,a 5=false->a 4=true->∀ b d e f g h i j k l m n o,c a b d e f g h i j k l m n o->
 aj j true (c (ay a 5) b d e f g h p0 j k l m n o) (c (ay a 5) b d e f g h undef j k l m n o))/\
 (∀ a:Nat->Bool,a 6=false->a 4=true->∀ d e f g h i j k l m n o p,c a d e f g h i j k l m n o p->
 aj k true (c (ay a 6) d e f g h b j k l m n o p) (c (ay a 6) d e f g h undef j k l m n o p))/\
 (∀ a:Nat->Bool,a 7=false->a 5=true->a 6=true->a 4=true->∀ b d e f g h i j k l m n o,c a b d e f g h i j k l m n o->
 aj j true (RR (sOp (.indexAddr 23 (.const i) (.const h)) 0) o fun g o=>
 c (ay a 7) b d e f g h i j k l m n o) (c (ay a 7) b d e f undef h i j k l m n o))/\
 (∀ a:Nat->Bool,a 8=false->a 7=true->a 4=true->∀ b d e f g h i j k l m n o,c a b d e f g h i j k l m n o->
 aj j true (RR (sOp (.load 25 (.const g)) 25) o fun f o=>
 c (ay a 8) b d e f g h i j k l m n o) (c (ay a 8) b d e undef g h i j k l m n o))/\
 (∀ b:Nat->Bool,b 9=false->b 4=true->∀ d e f g h i j k l m n o p,c b d e f g h i j k l m n o p->
 aj k true (RR (sOp (.load 25 (.const a)) 25) p fun a f=>
 c (ay b 9) d e a g h i j k l m n o f) (c (ay b 9) d e undef g h i j k l m n o p))/\
 (∀ a:Nat->Bool,a 10=false->a 8=true->a 9=true->a 4=true->a 4=true->∀ b d e f g h i j k l m n o,c a b d e f g h i j k l m n o->
 aj j true (RR (aH (.func (.func 118) #[] #[]) [f,e]) o fun d o=>
 c (ay a 10) b d e f g h i j k l m n o) (c (ay a 10) b undef e f g h i j k l m n o))/\
 (∀ a:Nat->Bool,a 11=false->a 4=true->a 10=true->∀ b d e f g h i j k l m n o,c a b d e f g h i j k l m n o->
 RR (sOp (.pick (.const j) (.const d) (.const (.bool false))) 4) o fun b o=>
 c (ay a 11) b d e f g h i j k l m n o)/\
 True)/\
 ∀ d:Nat->Bool,d 11=true->d 10=true->d 9=true->d 8=true->d 7=true->d 6=true->d 5=true->d 4=true->d 3=true->d 2=true->d 1=true->d 0=true->∀ e f g h i j k l m n o p q,c d e f g h i j k l m n o p q->
 CondV e (
 R (.returned p0) q) (
 RR (aS 23 0 []) q fun c d=>
 RR (sOp (.slice 23 (.const p0) none (some (.const b)) none) 23) d fun d e=>
 RR (ar .append #[23,23] 23 [false,false] [c,d]) e fun c d=>
 RR (sOp (.load 25 (.const a)) 25) d fun a d=>
 RR (aS 23 1 [(0,a)]) d fun a d=>
 RR (ar .append #[23,23] 23 [false,false] [c,a]) d fun a c=>
 RR (sOp (.slice 23 (.const p0) (some (.const b)) none none) 23) c fun b c=>
 RR (ar .append #[23,23] 23 [false,false] [a,b]) c fun a b=>
 R (.returned a) b)))))
theorem AQ {p0 p1:Value} {w:World} {R:Ending->World->Prop} (h:ww p0 p1 w R):Calls Tryz.prog 115 #[p0,p1] w R:=
  aK (.seq none .leaf (.seq none .leaf (.seq none (.one (.loop [5] .leaf)) .leaf))) [p0,p1] be Tryz.func115 (by kernel_rfl) (by kernel_rfl) h


/- loop.example/prologserver/spec.l16Full : function 116 -/
def tj (p0 p1:Value) (w:World) (R:Ending->World->Prop):Prop:=
 RR (sOp (.box 25 (.const p0)) 0) w fun a b=>
 RR (sOp (.alloc 25) 0) b fun b c=>
 RR (sOp (.fieldAddr 25 (.const a) 0) 0) c fun c d=>
 RR (sOp (.load 3 (.const c)) 3) d fun c d=>
 RR (sOp (.fieldAddr 25 (.const a) 2) 0) d fun d e=>
 RR (sOp (.load 9 (.const d)) 9) e fun d e=>
 RR (dy 25 [(0,c),(2,d)]) e fun c d=>
 RR (sOp (.alloc 25) 0) d fun d e=>
 RR (sOp (.store 25 (.const d) (.const c)) 0) e fun _ c=>
 (∃ (e:Value->World->Prop) (f:Value->World->Nat),e (.int .i64 0) c/\
 ∀ c _ _ g h i j k l m _ _ _ _ _ _ _ _ _ _ _ _ _ _ _ _ _ _ _:Value,∀ n:World,e c n->
 RR (sOp (.fieldAddr 25 (.const a) 3) 0) n fun o p=>
 RR (sOp (.load 23 (.const o)) 23) p fun o p=>
 RR (ar .len #[23] 3 [false] [o]) p fun o p=>
 RR (aq .lss 3 false false c o) p fun o p=>
 CondV o (
 RR (sOp (.fieldAddr 25 (.const a) 3) 0) p fun a b=>
 RR (sOp (.load 23 (.const a)) 23) b fun a b=>
 RR (sOp (.indexAddr 23 (.const a) (.const c)) 0) b fun a b=>
 RR (sOp (.load 25 (.const a)) 25) b fun a b=>
 RR (sOp (.alloc 25) 0) b fun b o=>
 RR (sOp (.store 25 (.const b) (.const a)) 0) o fun _ a=>
 (∃ o:World->Prop,(
 RR (sOp (.fieldAddr 25 (.const b) 0) 0) a fun a c=>
 RR (sOp (.load 3 (.const a)) 3) c fun a c=>
 RR (aq .eql 3 false true a (.int .i64 1)) c fun a c=>
 CondV a (
 RR (sOp (.fieldAddr 25 (.const b) 1) 0) c fun a c=>
 RR (sOp (.load 3 (.const a)) 3) c fun a c=>
 RR (sOp (.indexAddr 23 (.const p1) (.const a)) 0) c fun a c=>
 RR (sOp (.load 25 (.const a)) 25) c fun a c=>
 RR (sOp (.store 25 (.const b) (.const a)) 0) c fun _ a=>
 o a) (
 o c))/\
 ∀ _ _ _ _ _ _ _ _:Value,∀ a:World,o a->
 (∃ o:(Nat->Bool)->Value->Value->Value->Value->Value->Value->Value->World->Prop,o (fun _=>false) g h i j k l m { a with drawn:=a.drawn+1 }/\(
 (∀ a:Nat->Bool,a 0=false->∀ b c e f g h i j,o a b c e f g h i j->
 RR (sOp (.fieldAddr 25 (.const d) 3) 0) j fun d i=>
 o (ay a 0) b c e f g h d i)/\
 (∀ a:Nat->Bool,a 1=false->a 0=true->∀ b c d e f g h i,o a b c d e f g h i->
 RR (sOp (.load 23 (.const h)) 23) i fun g i=>
 o (ay a 1) b c d e f g h i)/\
 (∀ a:Nat->Bool,a 2=false->∀ c d e f g h i j,o a c d e f g h i j->
 RR (sOp (.load 25 (.const b)) 25) j fun b g=>
 o (ay a 2) c d e f b h i g)/\
 (∀ a:Nat->Bool,a 3=false->a 2=true->∀ b c d e f g h i,o a b c d e f g h i->
 RR (aH (.func (.func 42) #[] #[]) [f]) i fun e i=>
 o (ay a 3) b c d e f g h i)/\
 (∀ a:Nat->Bool,a 4=false->a 3=true->∀ b c d e f g h i,o a b c d e f g h i->
 RR (aS 23 1 [(0,e)]) i fun d i=>
 o (ay a 4) b c d e f g h i)/\
 (∀ a:Nat->Bool,a 5=false->a 1=true->a 4=true->a 3=true->∀ b c d e f g h i,o a b c d e f g h i->
 RR (ar .append #[23,23] 23 [false,false] [g,d]) i fun c i=>
 o (ay a 5) b c d e f g h i)/\
 (∀ a:Nat->Bool,a 6=false->a 0=true->a 1=true->a 2=true->a 3=true->a 4=true->a 5=true->∀ b c e f g h i j,o a b c e f g h i j->
 RR (sOp (.fieldAddr 25 (.const d) 3) 0) j fun b d=>
 o (ay a 6) b c e f g h i d)/\
 (∀ a:Nat->Bool,a 7=false->a 6=true->a 5=true->a 5=true->a 0=true->a 1=true->a 2=true->a 3=true->a 4=true->a 5=true->∀ b c d e f g h i,o a b c d e f g h i->
 RR (sOp (.store 23 (.const b) (.const c)) 0) i fun _ i=>
 o (ay a 7) b c d e f g h i)/\
 True)/\
 ∀ a:Nat->Bool,a 7=true->a 6=true->a 5=true->a 4=true->a 3=true->a 2=true->a 1=true->a 0=true->∀ b d g h i j k l,o a b d g h i j k l->
 RR (aq .add 3 false true c (.int .i64 1)) l fun a b=>
 e a b/\f a b<f c n))) (
 RR (sOp (.load 25 (.const d)) 25) p fun a c=>
 RR (sOp (.store 25 (.const b) (.const a)) 0) c fun _ a=>
 (bd Tryz.prog 25 b a fun b=>R (.returned b) a)))
theorem ya {p0 p1:Value} {w:World} {R:Ending->World->Prop} (h:tj p0 p1 w R):Calls Tryz.prog 116 #[p0,p1] w R:=
  aK (.seq none .leaf (.seq none .leaf (.seq none (.seq none .leaf (.one (.loop [6] (.seq none .leaf (.seq none (.one (.seq none .leaf (.seq (some []) .leaf .leaf))) .leaf))))) .leaf))) [p0,p1] be Tryz.func116 (by kernel_rfl) (by kernel_rfl) h


/- loop.example/prologserver/spec.l16Match : function 117 -/
def qn (p0 p1 p2:Value) (w:World) (R:Ending->World->Prop):Prop:=
 RR (sOp (.box 25 (.const p0)) 0) w fun a b=>
 RR (sOp (.box 25 (.const p1)) 0) b fun b c=>
 RR (aS 23 0 []) c fun c d=>
 RR (ar .append #[23,23] 23 [false,false] [c,p2]) d fun c d=>
 RR (sOp (.load 25 (.const a)) 25) d fun a d=>
 RR (sOp (.load 25 (.const b)) 25) d fun b d=>
 RR (aH (.func (.func 85) #[] #[]) [a,b,c]) d fun a b=>
 R (.returned (.tuple #[c,a])) b
theorem uX {p0 p1 p2:Value} {w:World} {R:Ending->World->Prop} (h:qn p0 p1 p2 w R):Calls Tryz.prog 117 #[p0,p1,p2] w R:=
  aK .leaf [p0,p1,p2] be Tryz.func117 (by kernel_rfl) (by kernel_rfl) h


/- loop.example/prologserver/spec.TermSame : function 118 -/
def qy (p0 p1:Value) (w:World) (R:Ending->World->Prop):Prop:=
 RR (sOp (.box 25 (.const p0)) 0) w fun a b=>
 RR (sOp (.box 25 (.const p1)) 0) b fun b c=>
 (∃ d:Value->World->Prop,(
 RR (sOp (.fieldAddr 25 (.const a) 0) 0) c fun c e=>
 RR (sOp (.load 3 (.const c)) 3) e fun c e=>
 RR (sOp (.fieldAddr 25 (.const b) 0) 0) e fun e f=>
 RR (sOp (.load 3 (.const e)) 3) f fun e f=>
 RR (aq .neq 3 false false c e) f fun c e=>
 ((fun d:VW=>aj c false (
 RR (sOp (.fieldAddr 25 (.const a) 1) 0) e fun a e=>
 RR (sOp (.load 3 (.const a)) 3) e fun a e=>
 RR (sOp (.fieldAddr 25 (.const b) 1) 0) e fun b e=>
 RR (sOp (.load 3 (.const b)) 3) e fun b e=>
 RR (aq .neq 3 false false a b) e fun a b=>
 RR (sOp (.pick (.const c) (.const (.bool true)) (.const a)) 4) b fun a b=>d a b) (
 RR (sOp (.pick (.const c) (.const (.bool true)) (.const undef)) 4) e fun a b=>d a b)) fun c e=>
 ((fun d:VW=>aj c false (
 RR (sOp (.fieldAddr 25 (.const a) 2) 0) e fun a e=>
 RR (sOp (.load 9 (.const a)) 9) e fun a e=>
 RR (sOp (.fieldAddr 25 (.const b) 2) 0) e fun b e=>
 RR (sOp (.load 9 (.const b)) 9) e fun b e=>
 RR (aq .neq 9 false false a b) e fun a b=>
 RR (sOp (.pick (.const c) (.const (.bool true)) (.const a)) 4) b fun a b=>d a b) (
 RR (sOp (.pick (.const c) (.const (.bool true)) (.const undef)) 4) e fun a b=>d a b)) fun c e=>
 aj c false (
 RR (sOp (.fieldAddr 25 (.const a) 3) 0) e fun a e=>
 RR (sOp (.load 23 (.const a)) 23) e fun a e=>
 RR (ar .len #[23] 3 [false] [a]) e fun a e=>
 RR (sOp (.fieldAddr 25 (.const b) 3) 0) e fun b e=>
 RR (sOp (.load 23 (.const b)) 23) e fun b e=>
 RR (ar .len #[23] 3 [false] [b]) e fun b e=>
 RR (aq .neq 3 false false a b) e fun a b=>
 RR (sOp (.pick (.const c) (.const (.bool true)) (.const a)) 4) b fun a b=>
 d a b) (
 RR (sOp (.pick (.const c) (.const (.bool true)) (.const undef)) 4) e fun a b=>
 d a b))))/\
 ∀ c _ _ _ _ _ _ _ _ _ _ _ _ _ _ _ _ _ _ _ _ _ _ _ _ _ _ _:Value,∀ e:World,d c e->
 CondV c (
 R (.returned (.bool false)) e) (
 (∃ (c:Value->World->Prop) (d:Value->World->Nat),c (.int .i64 0) e/\
 ∀ e _ _ _ f g h i j k l m n o p q _ _ _ _ _:Value,∀ r:World,c e r->
 RR (sOp (.fieldAddr 25 (.const a) 3) 0) r fun s t=>
 RR (sOp (.load 23 (.const s)) 23) t fun s t=>
 RR (ar .len #[23] 3 [false] [s]) t fun s t=>
 RR (aq .lss 3 false false e s) t fun s t=>
 CondV s (
 (∃ s:(Nat->Bool)->Value->Value->Value->Value->Value->Value->Value->Value->Value->Value->Value->Value->World->Prop,s (fun _=>false) f g h i j k l m n o p q { t with drawn:=t.drawn+1 }/\(
 (∀ b:Nat->Bool,b 0=false->∀ c d e f g h i j k l m n o,s b c d e f g h i j k l m n o->
 RR (sOp (.fieldAddr 25 (.const a) 3) 0) o fun a n=>
 s (ay b 0) c d e f g h i j k l m a n)/\
 (∀ a:Nat->Bool,a 1=false->a 0=true->∀ b c d e f g h i j k l m n,s a b c d e f g h i j k l m n->
 RR (sOp (.load 23 (.const m)) 23) n fun l n=>
 s (ay a 1) b c d e f g h i j k l m n)/\
 (∀ a:Nat->Bool,a 2=false->∀ b c d f g h i j k l m n o,s a b c d f g h i j k l m n o->
 s (ay a 2) b c d f g h i j k e m n o)/\
 (∀ a:Nat->Bool,a 3=false->a 1=true->a 2=true->∀ b c d e f g h i j k l m n,s a b c d e f g h i j k l m n->
 RR (sOp (.indexAddr 23 (.const l) (.const k)) 0) n fun j n=>
 s (ay a 3) b c d e f g h i j k l m n)/\
 (∀ a:Nat->Bool,a 4=false->a 3=true->∀ b c d e f g h i j k l m n,s a b c d e f g h i j k l m n->
 RR (sOp (.load 25 (.const j)) 25) n fun i n=>
 s (ay a 4) b c d e f g h i j k l m n)/\
 (∀ a:Nat->Bool,a 5=false->∀ c d e f g h i j k l m n o,s a c d e f g h i j k l m n o->
 RR (sOp (.fieldAddr 25 (.const b) 3) 0) o fun b i=>
 s (ay a 5) c d e f g h b j k l m n i)/\
 (∀ a:Nat->Bool,a 6=false->a 5=true->∀ b c d e f g h i j k l m n,s a b c d e f g h i j k l m n->
 RR (sOp (.load 23 (.const h)) 23) n fun g n=>
 s (ay a 6) b c d e f g h i j k l m n)/\
 (∀ a:Nat->Bool,a 7=false->∀ b c d f g h i j k l m n o,s a b c d f g h i j k l m n o->
 s (ay a 7) b c d f e h i j k l m n o)/\
 (∀ a:Nat->Bool,a 8=false->a 6=true->a 7=true->∀ b c d e f g h i j k l m n,s a b c d e f g h i j k l m n->
 RR (sOp (.indexAddr 23 (.const g) (.const f)) 0) n fun e n=>
 s (ay a 8) b c d e f g h i j k l m n)/\
 (∀ a:Nat->Bool,a 9=false->a 8=true->∀ b c d e f g h i j k l m n,s a b c d e f g h i j k l m n->
 RR (sOp (.load 25 (.const e)) 25) n fun d n=>
 s (ay a 9) b c d e f g h i j k l m n)/\
 (∀ a:Nat->Bool,a 10=false->a 4=true->a 9=true->∀ b c d e f g h i j k l m n,s a b c d e f g h i j k l m n->
 RR (aH (.func (.func 118) #[] #[]) [i,d]) n fun c n=>
 s (ay a 10) b c d e f g h i j k l m n)/\
 (∀ a:Nat->Bool,a 11=false->a 10=true->∀ b c d e f g h i j k l m n,s a b c d e f g h i j k l m n->
 RR (sOp (.unOp .not 4 (.const c)) 4) n fun b n=>
 s (ay a 11) b c d e f g h i j k l m n)/\
 True)/\
 ∀ a:Nat->Bool,a 11=true->a 10=true->a 9=true->a 8=true->a 7=true->a 6=true->a 5=true->a 4=true->a 3=true->a 2=true->a 1=true->a 0=true->∀ b f g h i j k l m n o p q,s a b f g h i j k l m n o p q->
 CondV b (
 R (.returned (.bool false)) q) (
 RR (aq .add 3 false true e (.int .i64 1)) q fun a b=>
 c a b/\d a b<d e r))) (
 R (.returned (.bool true)) t))))
theorem uJ {p0 p1:Value} {w:World} {R:Ending->World->Prop} (h:qy p0 p1 w R):Calls Tryz.prog 118 #[p0,p1] w R:=
  aK (.seq none .leaf (.seq none (.seq (some [33]) .leaf .leaf) (.seq none (.seq none .leaf (.one (.loop [5] .leaf))) .leaf))) [p0,p1] be Tryz.func118 (by kernel_rfl) (by kernel_rfl) h


/- loop.example/prologserver/spec.l18Cut : function 119 -/
def wz (p0 p1:Value) (w:World) (R:Ending->World->Prop):Prop:=
 RR (aS 67 0 []) w fun a b=>
 (∃ (c:Value->Value->Value->World->Prop) (d:Value->Value->Value->World->Nat),c (.int .i64 0) (.int .i64 0) a b/\
 ∀ a _ _ b _ _ e _ _ _ _ _ _ _ _ _ _ _ _ _ _ _ _ _ _ _ _ _ _:Value,∀ f:World,c a b e f->
 RR (ar .len #[9] 3 [false] [p0]) f fun g h=>
 RR (aq .leq 3 false false a g) h fun g h=>
 CondV g (
 (∃ g:Value->Value->World->Prop,(
 (∃ c:Value->World->Prop,(
 RR (ar .len #[9] 3 [false] [p0]) h fun b d=>
 RR (aq .eql 3 false false a b) d fun b d=>
 aj b false (
 RR (sOp (.index 9 (.const p0) (.const a)) 5) d fun a d=>
 RR (aq .eql 5 false false a p1) d fun a d=>
 RR (sOp (.pick (.const b) (.const (.bool true)) (.const a)) 4) d fun a b=>
 c a b) (
 RR (sOp (.pick (.const b) (.const (.bool true)) (.const undef)) 4) d fun a b=>
 c a b))/\
 ∀ d _ _ _ _ _ _ _ _ _ _:Value,∀ f:World,c d f->
 CondV d (
 RR (sOp (.slice 9 (.const p0) (some (.const b)) (some (.const a)) none) 9) f fun b c=>
 RR (aS 67 1 [(0,b)]) c fun b c=>
 RR (ar .append #[67,67] 67 [false,false] [e,b]) c fun b c=>
 RR (aq .add 3 false true a (.int .i64 1)) c fun a c=>
 g a b c) (
 g b e f)))/\
 ∀ h _ _ i _ _ _ _ _ _ _ _ _ _ _ _ _ _ _ _ _ _:Value,∀ j:World,g h i j->
 RR (aq .add 3 false true a (.int .i64 1)) j fun g j=>
 c g h i j/\d g h i j<d a b e f)) (
 R (.returned e) h))
theorem A5 {p0 p1:Value} {w:World} {R:Ending->World->Prop} (h:wz p0 p1 w R):Calls Tryz.prog 119 #[p0,p1] w R:=
  aK (.seq none .leaf (.seq none .leaf (.seq none .leaf (.seq none (.seq none .leaf (.one (.loop [7,6,5] (.seq none .leaf (.seq (some [6,5]) (.one (.seq (some [25]) .leaf .leaf)) .leaf))))) .leaf)))) [p0,p1] be Tryz.func119 (by kernel_rfl) (by kernel_rfl) h


/- loop.example/prologserver/spec.ParseClause : function 120 -/
def l8 (p0:Value) (w:World) (R:Ending->World->Prop):Prop:=
 RR (sOp (.alloc 39) 0) w fun a b=>
 RR (ar .len #[9] 3 [false] [p0]) b fun b c=>
 RR (aq .gtr 3 false true b (.int .i64 1000)) c fun b c=>
 CondV b (
 RR (dy 39 []) c fun b c=>
 RR (sOp (.store 39 (.const a) (.const b)) 0) c fun _ b=>
 (bd Tryz.prog 39 a b fun a=>R (.returned (.tuple #[a,(.bool false)])) b)) (
 RR (aH (.func (.func 146) #[] #[]) [p0,(.int .i64 0),(.int .i64 30),(.int .i64 3)]) c fun b c=>
 RR (sOp (.extract (.const b) 0) 25) c fun c d=>
 RR (sOp (.extract (.const b) 1) 3) d fun b d=>
 RR (sOp (.alloc 25) 0) d fun d e=>
 RR (sOp (.store 25 (.const d) (.const c)) 0) e fun _ c=>
 RR (aq .lss 3 false true b (.int .i64 0)) c fun c e=>
 CondV c (
 RR (dy 39 []) e fun b c=>
 RR (sOp (.store 39 (.const a) (.const b)) 0) c fun _ b=>
 (bd Tryz.prog 39 a b fun a=>R (.returned (.tuple #[a,(.bool false)])) b)) (
 RR (sOp (.load 25 (.const d)) 25) e fun c d=>
 RR (dy 39 [(0,c)]) d fun c d=>
 RR (sOp (.alloc 39) 0) d fun d e=>
 RR (sOp (.store 39 (.const d) (.const c)) 0) e fun _ c=>
 (∃ e:Value->World->Prop,(
 (∃ a:Value->World->Prop,(
 RR (aH (.func (.func 147) #[] #[]) [p0,b,(.int .u8 58)]) c fun c d=>
 aj c true (
 RR (aq .add 3 false true b (.int .i64 1)) d fun b d=>
 RR (aH (.func (.func 147) #[] #[]) [p0,b,(.int .u8 45)]) d fun b d=>
 RR (sOp (.pick (.const c) (.const b) (.const (.bool false))) 4) d fun b c=>
 a b c) (
 RR (sOp (.pick (.const c) (.const undef) (.const (.bool false))) 4) d fun b c=>
 a b c))/\
 ∀ c _ _ _ _ _ _ _ _:Value,∀ f:World,a c f->
 CondV c (
 RR (aq .add 3 false true b (.int .i64 2)) f fun a b=>
 RR (aH (.func (.func 148) #[] #[]) [p0,a]) b fun a b=>
 RR (sOp (.extract (.const a) 0) 23) b fun b c=>
 RR (sOp (.extract (.const a) 1) 3) c fun a c=>
 RR (sOp (.fieldAddr 39 (.const d) 1) 0) c fun c d=>
 RR (sOp (.store 23 (.const c) (.const b)) 0) d fun _ b=>
 e a b) (
 e b f)))/\
 ∀ b _ _ _ _ _ _ _ _ _ _ _ _ _ _ _ _ _:Value,∀ c:World,e b c->
 (∃ e:Value->World->Prop,(
 RR (ar .len #[9] 3 [false] [p0]) c fun a c=>
 RR (aq .sub 3 false true a (.int .i64 1)) c fun a c=>
 RR (aq .neq 3 false false b a) c fun a c=>
 ((fun d:VW=>aj a false (
 RR (aH (.func (.func 147) #[] #[]) [p0,b,(.int .u8 46)]) c fun b c=>
 RR (sOp (.unOp .not 4 (.const b)) 4) c fun b c=>
 RR (sOp (.pick (.const a) (.const (.bool true)) (.const b)) 4) c fun a b=>d a b) (
 RR (sOp (.pick (.const a) (.const (.bool true)) (.const undef)) 4) c fun a b=>d a b)) fun a b=>
 aj a false (
 RR (sOp (.load 39 (.const d)) 39) b fun b c=>
 RR (aH (.func (.func 149) #[] #[]) [b]) c fun b c=>
 RR (aq .neq 9 false false b p0) c fun b c=>
 RR (sOp (.pick (.const a) (.const (.bool true)) (.const b)) 4) c fun a b=>
 e a b) (
 RR (sOp (.pick (.const a) (.const (.bool true)) (.const undef)) 4) b fun a b=>
 e a b)))/\
 ∀ b _ _ _ _ _ _ _ _ _ _ _ _ _ _ _ _:Value,∀ c:World,e b c->
 CondV b (
 RR (dy 39 []) c fun b c=>
 RR (sOp (.store 39 (.const a) (.const b)) 0) c fun _ b=>
 (bd Tryz.prog 39 a b fun a=>R (.returned (.tuple #[a,(.bool false)])) b)) (
 RR (sOp (.load 39 (.const d)) 39) c fun b c=>
 RR (aH (.func (.func 140) #[] #[]) [b]) c fun b c=>
 RR (sOp (.store 39 (.const a) (.const b)) 0) c fun _ b=>
 (bd Tryz.prog 39 a b fun a=>R (.returned (.tuple #[a,(.bool true)])) b))))))
theorem qg {p0:Value} {w:World} {R:Ending->World->Prop} (h:l8 p0 w R):Calls Tryz.prog 120 #[p0] w R:=
  aK (.seq none .leaf (.seq none .leaf (.seq none .leaf (.seq none .leaf (.seq none .leaf (.seq (some [5]) (.seq (some [29]) .leaf .leaf) (.seq none (.seq (some [54]) .leaf .leaf) .leaf))))))) [p0] be Tryz.func120 (by kernel_rfl) (by kernel_rfl) h


/- loop.example/prologserver/spec.l4Texts : function 121 -/
def sF (w:World) (R:Ending->World->Prop):Prop:=
 RR (aS 67 11 [(0,(.string ⟨#[97,112,112,40,91,93,44,65,44,65,41,46,10,97,112,112,40,91,65,124,66,93,44,67,44,91,65,124,68,93,41,58,45,97,112,112,40,66,44,67,44,68,41,46,10]⟩)),(1,(.string ⟨#[109,101,109,40,65,44,91,65,124,66,93,41,46,10,109,101,109,40,65,44,91,66,124,67,93,41,58,45,109,101,109,40,65,44,67,41,46,10]⟩)),(2,(.string ⟨#[112,40,49,41,46,10,112,40,50,41,46,10,112,40,51,41,46,10,113,40,65,41,58,45,112,40,65,41,44,65,62,49,44,33,46,10,114,40,65,44,66,41,58,45,112,40,65,41,44,112,40,66,41,46,10]⟩)),(3,(.string ⟨#[108,101,110,40,91,93,44,48,41,46,10,108,101,110,40,91,65,124,66,93,44,67,41,58,45,108,101,110,40,66,44,68,41,44,67,32,105,115,32,68,43,49,46,10]⟩)),(4,(.string ⟨#[109,97,120,40,65,44,66,44,65,41,58,45,65,62,61,66,44,33,46,10,109,97,120,40,65,44,66,44,66,41,46,10]⟩)),(5,(.string ⟨#[101,40,97,44,98,41,46,10,101,40,98,44,99,41,46,10,101,40,99,44,100,41,46,10,116,40,65,44,66,41,58,45,101,40,65,44,66,41,46,10,116,40,65,44,66,41,58,45,101,40,65,44,67,41,44,116,40,67,44,66,41,46,10]⟩)),(6,(.string ⟨#[108,111,111,112,58,45,108,111,111,112,46,10,111,107,46,10]⟩)),(7,(.string ⟨#[102,97,99,40,48,44,49,41,58,45,33,46,10,102,97,99,40,65,44,66,41,58,45,65,62,48,44,67,32,105,115,32,65,45,49,44,102,97,99,40,67,44,68,41,44,66,32,105,115,32,65,42,68,46,10]⟩)),(8,(.string ⟨#[115,40,65,41,58,45,65,61,102,40,66,41,44,97,114,103,40,49,44,65,44,66,41,44,66,61,49,46,10,115,40,65,41,58,45,118,97,114,40,65,41,44,65,61,110,111,110,101,46,10]⟩)),(9,(.string ⟨#[114,101,118,40,91,93,44,65,44,65,41,46,10,114,101,118,40,91,65,124,66,93,44,67,44,68,41,58,45,114,101,118,40,66,44,91,65,124,67,93,44,68,41,46,10]⟩)),(10,(.string ⟨#[98,97,100,40,65,41,58,45,66,32,105,115,32,65,43,102,111,111,44,67,61,66,46,10,98,105,103,40,65,41,58,45,65,32,105,115,32,57,57,57,43,49,46,10,117,110,40,65,41,58,45,110,111,115,117,99,104,40,65,41,46,10]⟩))]) w fun a b=>
 R (.returned a) b
theorem xM {w:World} {R:Ending->World->Prop} (h:sF w R):Calls Tryz.prog 121 #[] w R:=
  aK .leaf [] be Tryz.func121 (by kernel_rfl) (by kernel_rfl) h


/- loop.example/prologserver/spec.l1Parse : function 122 -/
def tL (p0 p1 p2:Value) (w:World) (R:Ending->World->Prop):Prop:=
 RR (sOp (.alloc 25) 0) w fun a b=>
 (∃ c:Value->World->Prop,(
 RR (aq .lss 3 false true p2 (.int .i64 1)) b fun a b=>
 ((fun c:VW=>aj a false (
 RR (aq .lss 3 false true p1 (.int .i64 0)) b fun b d=>
 RR (sOp (.pick (.const a) (.const (.bool true)) (.const b)) 4) d fun a b=>c a b) (
 RR (sOp (.pick (.const a) (.const (.bool true)) (.const undef)) 4) b fun a b=>c a b)) fun a b=>
 aj a false (
 RR (ar .len #[9] 3 [false] [p0]) b fun b d=>
 RR (aq .geq 3 false false p1 b) d fun b d=>
 RR (sOp (.pick (.const a) (.const (.bool true)) (.const b)) 4) d fun a b=>
 c a b) (
 RR (sOp (.pick (.const a) (.const (.bool true)) (.const undef)) 4) b fun a b=>
 c a b)))/\
 ∀ b _ _ _ _ _ _ _ _ _ _ _:Value,∀ d:World,c b d->
 CondV b (
 RR (dy 25 []) d fun b c=>
 RR (sOp (.store 25 (.const a) (.const b)) 0) c fun _ b=>
 (bd Tryz.prog 25 a b fun a=>R (.returned (.tuple #[a,(.int .i64 (-1))])) b)) (
 (∃ b:Value->World->Prop,(
 RR (sOp (.index 9 (.const p0) (.const p1)) 5) d fun a c=>
 RR (aq .geq 5 false true a (.int .u8 65)) c fun a c=>
 aj a true (
 RR (sOp (.index 9 (.const p0) (.const p1)) 5) c fun c d=>
 RR (aq .leq 5 false true c (.int .u8 90)) d fun c d=>
 RR (sOp (.pick (.const a) (.const c) (.const (.bool false))) 4) d fun a c=>
 b a c) (
 RR (sOp (.pick (.const a) (.const undef) (.const (.bool false))) 4) c fun a c=>
 b a c))/\
 ∀ c _ _ _ _ _ _ _ _ _:Value,∀ d:World,b c d->
 CondV c (
 RR (sOp (.index 9 (.const p0) (.const p1)) 5) d fun b c=>
 RR (aq .sub 5 false true b (.int .u8 65)) c fun b c=>
 RR (sOp (.convert 5 3 (.const b)) 3) c fun b c=>
 RR (aH (.func (.func 150) #[] #[]) [b]) c fun b c=>
 RR (aq .add 3 false true p1 (.int .i64 1)) c fun c d=>
 RR (sOp (.store 25 (.const a) (.const b)) 0) d fun _ b=>
 (bd Tryz.prog 25 a b fun a=>R (.returned (.tuple #[a,c])) b)) (
 (∃ b:Value->World->Prop,(
 RR (aH (.func (.func 151) #[] #[]) [p0,p1]) d fun a c=>
 aj a false (
 RR (sOp (.index 9 (.const p0) (.const p1)) 5) c fun c d=>
 RR (aq .eql 5 false true c (.int .u8 45)) d fun c d=>
 aj c true (
 RR (aq .add 3 false true p1 (.int .i64 1)) d fun d e=>
 RR (aH (.func (.func 151) #[] #[]) [p0,d]) e fun d e=>
 aj a false (
 RR (sOp (.pick (.const c) (.const d) (.const (.bool false))) 4) e fun c d=>
 RR (sOp (.pick (.const a) (.const (.bool true)) (.const c)) 4) d fun a c=>
 b a c) (
 RR (sOp (.pick (.const a) (.const (.bool true)) (.const undef)) 4) e fun a c=>
 b a c)) (
 aj a false (
 RR (sOp (.pick (.const c) (.const undef) (.const (.bool false))) 4) d fun c d=>
 RR (sOp (.pick (.const a) (.const (.bool true)) (.const c)) 4) d fun a c=>
 b a c) (
 RR (sOp (.pick (.const a) (.const (.bool true)) (.const undef)) 4) d fun a c=>
 b a c))) (
 aj undef true (
 RR (aq .add 3 false true p1 (.int .i64 1)) c fun c d=>
 RR (aH (.func (.func 151) #[] #[]) [p0,c]) d fun c d=>
 aj a false (
 RR (sOp (.pick (.const undef) (.const c) (.const (.bool false))) 4) d fun c d=>
 RR (sOp (.pick (.const a) (.const (.bool true)) (.const c)) 4) d fun a c=>
 b a c) (
 RR (sOp (.pick (.const a) (.const (.bool true)) (.const undef)) 4) d fun a c=>
 b a c)) (
 aj a false (
 RR (sOp (.pick (.const undef) (.const undef) (.const (.bool false))) 4) c fun c d=>
 RR (sOp (.pick (.const a) (.const (.bool true)) (.const c)) 4) d fun a c=>
 b a c) (
 RR (sOp (.pick (.const a) (.const (.bool true)) (.const undef)) 4) c fun a c=>
 b a c))))/\
 ∀ c _ _ _ _ _ _ _ _ _ _ _ _ _ _:Value,∀ d:World,b c d->
 CondV c (
 RR (aH (.func (.func 152) #[] #[]) [p0,p1]) d fun b c=>
 RR (sOp (.extract (.const b) 0) 25) c fun c d=>
 RR (sOp (.extract (.const b) 1) 3) d fun b d=>
 RR (sOp (.store 25 (.const a) (.const c)) 0) d fun _ c=>
 (bd Tryz.prog 25 a c fun a=>R (.returned (.tuple #[a,b])) c)) (
 (∃ b:Value->World->Prop,(
 RR (sOp (.index 9 (.const p0) (.const p1)) 5) d fun a c=>
 RR (aq .eql 5 false true a (.int .u8 91)) c fun a c=>
 aj a true (
 RR (aq .add 3 false true p1 (.int .i64 1)) c fun c d=>
 RR (aH (.func (.func 147) #[] #[]) [p0,c,(.int .u8 93)]) d fun c d=>
 RR (sOp (.unOp .not 4 (.const c)) 4) d fun c d=>
 RR (sOp (.pick (.const a) (.const c) (.const (.bool false))) 4) d fun a c=>
 b a c) (
 RR (sOp (.pick (.const a) (.const undef) (.const (.bool false))) 4) c fun a c=>
 b a c))/\
 ∀ c _ _ _ _ _ _ _ _ _ _:Value,∀ d:World,b c d->
 CondV c (
 RR (aq .add 3 false true p1 (.int .i64 1)) d fun b c=>
 RR (aq .sub 3 false true p2 (.int .i64 1)) c fun c d=>
 RR (aH (.func (.func 153) #[] #[]) [p0,b,c]) d fun b c=>
 RR (sOp (.extract (.const b) 0) 25) c fun c d=>
 RR (sOp (.extract (.const b) 1) 3) d fun b d=>
 RR (sOp (.store 25 (.const a) (.const c)) 0) d fun _ c=>
 (bd Tryz.prog 25 a c fun a=>R (.returned (.tuple #[a,b])) c)) (
 RR (aH (.func (.func 154) #[] #[]) [p0,p1]) d fun b c=>
 RR (sOp (.extract (.const b) 0) 9) c fun c d=>
 RR (sOp (.extract (.const b) 1) 3) d fun b d=>
 (∃ e:Value->World->Prop,(
 RR (aq .lss 3 false true b (.int .i64 0)) d fun a c=>
 aj a false (
 RR (aH (.func (.func 147) #[] #[]) [p0,b,(.int .u8 40)]) c fun b c=>
 RR (sOp (.unOp .not 4 (.const b)) 4) c fun b c=>
 RR (sOp (.pick (.const a) (.const (.bool true)) (.const b)) 4) c fun a b=>
 e a b) (
 RR (sOp (.pick (.const a) (.const (.bool true)) (.const undef)) 4) c fun a b=>
 e a b))/\
 ∀ d _ _ _ _ _ _ _:Value,∀ f:World,e d f->
 CondV d (
 RR (aH (.func (.func 78) #[] #[]) [c,(Value.slice none 0 0)]) f fun c d=>
 RR (sOp (.store 25 (.const a) (.const c)) 0) d fun _ c=>
 (bd Tryz.prog 25 a c fun a=>R (.returned (.tuple #[a,b])) c)) (
 RR (aq .add 3 false true b (.int .i64 1)) f fun b d=>
 RR (aq .sub 3 false true p2 (.int .i64 1)) d fun d e=>
 RR (aH (.func (.func 155) #[] #[]) [p0,b,d]) e fun b d=>
 RR (sOp (.extract (.const b) 0) 23) d fun d e=>
 RR (sOp (.extract (.const b) 1) 3) e fun b e=>
 RR (dy 25 [(0,(.int .i64 3)),(2,c),(3,d)]) e fun c d=>
 RR (sOp (.store 25 (.const a) (.const c)) 0) d fun _ c=>
 (bd Tryz.prog 25 a c fun a=>R (.returned (.tuple #[a,b])) c)))))))))))
theorem xy {p0 p1 p2:Value} {w:World} {R:Ending->World->Prop} (h:tL p0 p1 p2 w R):Calls Tryz.prog 122 #[p0,p1,p2] w R:=
  aK (.seq none .leaf (.seq none (.seq (some [23]) .leaf .leaf) (.seq none (.seq (some [34]) .leaf .leaf) (.seq none (.seq (some [57]) .leaf .leaf) (.seq none (.seq (some [73]) .leaf .leaf) (.seq none .leaf (.seq none (.seq (some [95]) .leaf .leaf) .leaf))))))) [p0,p1,p2] be Tryz.func122 (by kernel_rfl) (by kernel_rfl) h


/- loop.example/prologserver/spec.FormatTerm : function 123 -/
def m7 (p0:Value) (w:World) (R:Ending->World->Prop):Prop:=
 RR (sOp (.box 25 (.const p0)) 0) w fun a b=>
 RR (sOp (.load 25 (.const a)) 25) b fun b c=>
 RR (aH (.func (.func 84) #[] #[]) [b]) c fun b c=>
 RR (sOp (.unOp .not 4 (.const b)) 4) c fun b c=>
 CondV b (
 R (.returned (.string ⟨#[]⟩)) c) (
 RR (sOp (.load 25 (.const a)) 25) c fun a b=>
 RR (aH (.func (.func 156) #[] #[]) [a]) b fun a b=>
 R (.returned a) b)
theorem rG {p0:Value} {w:World} {R:Ending->World->Prop} (h:m7 p0 w R):Calls Tryz.prog 123 #[p0] w R:=
  aK .leaf [p0] be Tryz.func123 (by kernel_rfl) (by kernel_rfl) h


/- loop.example/prologserver/spec.l1Shape : function 124 -/
def sy (p0 p1:Value) (w:World) (R:Ending->World->Prop):Prop:=
 RR (sOp (.box 25 (.const p0)) 0) w fun a b=>
 (∃ c:Value->World->Prop,(
 RR (aq .lss 3 false true p1 (.int .i64 1)) b fun b d=>
 aj b false (
 RR (sOp (.load 25 (.const a)) 25) d fun a d=>
 RR (aH (.func (.func 157) #[] #[]) [a]) d fun a d=>
 RR (sOp (.unOp .not 4 (.const a)) 4) d fun a d=>
 RR (sOp (.pick (.const b) (.const (.bool true)) (.const a)) 4) d fun a b=>
 c a b) (
 RR (sOp (.pick (.const b) (.const (.bool true)) (.const undef)) 4) d fun a b=>
 c a b))/\
 ∀ b _ _ _ _ _ _:Value,∀ d:World,c b d->
 CondV b (
 R (.returned (.bool false)) d) (
 (∃ (b:Value->World->Prop) (c:Value->World->Nat),b (.int .i64 0) d/\
 ∀ d _ _ _ _ _ _ _ _ _ _ _ _ _ _ _ _ _:Value,∀ e:World,b d e->
 RR (sOp (.fieldAddr 25 (.const a) 3) 0) e fun f g=>
 RR (sOp (.load 23 (.const f)) 23) g fun f g=>
 RR (ar .len #[23] 3 [false] [f]) g fun f g=>
 RR (aq .lss 3 false false d f) g fun f g=>
 CondV f (
 RR (sOp (.fieldAddr 25 (.const a) 3) 0) g fun a f=>
 RR (sOp (.load 23 (.const a)) 23) f fun a f=>
 RR (sOp (.indexAddr 23 (.const a) (.const d)) 0) f fun a f=>
 RR (sOp (.load 25 (.const a)) 25) f fun a f=>
 RR (aq .sub 3 false true p1 (.int .i64 1)) f fun f g=>
 RR (aH (.func (.func 124) #[] #[]) [a,f]) g fun a f=>
 RR (sOp (.unOp .not 4 (.const a)) 4) f fun a f=>
 CondV a (
 R (.returned (.bool false)) f) (
 RR (aq .add 3 false true d (.int .i64 1)) f fun a f=>
 b a f/\c a f<c d e)) (
 R (.returned (.bool true)) g))))
theorem yz {p0 p1:Value} {w:World} {R:Ending->World->Prop} (h:sy p0 p1 w R):Calls Tryz.prog 124 #[p0,p1] w R:=
  aK (.seq none .leaf (.seq none (.seq (some [12]) .leaf .leaf) (.seq none (.seq none .leaf (.one (.loop [5] .leaf))) .leaf))) [p0,p1] be Tryz.func124 (by kernel_rfl) (by kernel_rfl) h


/- loop.example/prologserver/spec.l1Count : function 125 -/
def tW (p0 p1:Value) (w:World) (R:Ending->World->Prop):Prop:=
 RR (sOp (.box 25 (.const p0)) 0) w fun a b=>
 (∃ (c:Value->Value->World->Prop) (d:Value->Value->World->Nat),c (.int .i64 0) (.int .i64 1) b/\
 ∀ b _ _ e _ _ _ _ _ _ _ _ _ _ _ _ _ _ _ _ _ _ _ _ _:Value,∀ f:World,c b e f->
 (∃ g:Value->World->Prop,(
 RR (sOp (.fieldAddr 25 (.const a) 3) 0) f fun a c=>
 RR (sOp (.load 23 (.const a)) 23) c fun a c=>
 RR (ar .len #[23] 3 [false] [a]) c fun a c=>
 RR (aq .lss 3 false false b a) c fun a b=>
 aj a true (
 RR (aq .leq 3 false false e p1) b fun b c=>
 RR (sOp (.pick (.const a) (.const b) (.const (.bool false))) 4) c fun a b=>
 g a b) (
 RR (sOp (.pick (.const a) (.const undef) (.const (.bool false))) 4) b fun a b=>
 g a b))/\
 ∀ h _ _ _ _ _ _ _ _ _:Value,∀ i:World,g h i->
 CondV h (
 RR (sOp (.fieldAddr 25 (.const a) 3) 0) i fun a g=>
 RR (sOp (.load 23 (.const a)) 23) g fun a g=>
 RR (sOp (.indexAddr 23 (.const a) (.const b)) 0) g fun a g=>
 RR (sOp (.load 25 (.const a)) 25) g fun a g=>
 RR (aq .sub 3 false false p1 e) g fun g h=>
 RR (aH (.func (.func 125) #[] #[]) [a,g]) h fun a g=>
 RR (aq .add 3 false false e a) g fun a g=>
 RR (aq .add 3 false true b (.int .i64 1)) g fun g h=>
 c g a h/\d g a h<d b e f) (
 R (.returned e) i)))
theorem xZ {p0 p1:Value} {w:World} {R:Ending->World->Prop} (h:tW p0 p1 w R):Calls Tryz.prog 125 #[p0,p1] w R:=
  aK (.seq none .leaf (.seq none .leaf (.seq none (.seq none .leaf (.one (.loop [6,5] (.seq none (.seq (some [16]) .leaf .leaf) .leaf)))) .leaf))) [p0,p1] be Tryz.func125 (by kernel_rfl) (by kernel_rfl) h


/- loop.example/prologserver/impl.within : function 126 -/
def xg (p0 p1 p2:Value) (w:World) (R:Ending->World->Prop):Prop:=
 RR (aq .leq 3 false false p1 p0) w fun a b=>
 aj a true (
 RR (aq .leq 3 false false p0 p2) b fun b c=>
 RR (sOp (.pick (.const a) (.const b) (.const (.bool false))) 4) c fun a b=>
 R (.returned a) b) (
 RR (sOp (.pick (.const a) (.const undef) (.const (.bool false))) 4) b fun a b=>
 R (.returned a) b)
theorem AS {p0 p1 p2:Value} {w:World} {R:Ending->World->Prop} (h:xg p0 p1 p2 w R):Calls Tryz.prog 126 #[p0,p1,p2] w R:=
  aK .leaf [p0,p1,p2] be Tryz.func126 (by kernel_rfl) (by kernel_rfl) h


/- loop.example/prologserver/impl.NameValid : function 127 -/
def oE (p0:Value) (w:World) (R:Ending->World->Prop):Prop:=
 RR (aH (.func (.func 101) #[] #[]) [p0]) w fun a b=>
 aj a false (
 RR (aH (.func (.func 158) #[] #[]) []) b fun b c=>
 RR (aH (.func (.func 55) #[] #[]) [b,p0]) c fun b c=>
 RR (sOp (.pick (.const a) (.const (.bool true)) (.const b)) 4) c fun a b=>
 R (.returned a) b) (
 RR (sOp (.pick (.const a) (.const (.bool true)) (.const undef)) 4) b fun a b=>
 R (.returned a) b)
theorem sA {p0:Value} {w:World} {R:Ending->World->Prop} (h:oE p0 w R):Calls Tryz.prog 127 #[p0] w R:=
  aK .leaf [p0] be Tryz.func127 (by kernel_rfl) (by kernel_rfl) h

end Go.Proofs.YtemmhhdnlbmicaaGreat
