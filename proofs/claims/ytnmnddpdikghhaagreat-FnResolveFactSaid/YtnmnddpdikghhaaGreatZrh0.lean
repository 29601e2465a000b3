/- Made by program: the functions in a shallow form; each form gives Calls. -/
import Derived.Test.YtnmnddpdikghhaaGreatZrS
import Derived.Test.YtnmnddpdikghhaaGreatProg
import Derived.KernelRfl
set_option maxRecDepth 100000
namespace Go.Proofs.YtnmnddpdikghhaaGreat
open Go
theorem bp:Tryz.prog.follows .mixedOrders=true:=by kernel_rfl
abbrev RR:=Run Tryz.prog
abbrev VW:=Value->World->Prop
/- loop.example/prologserver/laws.FnResolveFact : function 3 -/
def jJ (p0:Value) (w:World) (R:Ending->World->Prop):Prop:=
 RR (aE .len #[22] 3 [false] [p0]) w fun a b=>
 RR (av .gtr 3 false true a (.int .i64 1048576)) b fun a b=>
 CondV a (
 R (.returned (.bool true)) b) (
 RR (aF (.func (.func 5) #[] #[]) [p0]) b fun a b=>
 RR (sOp (.extract (.const a) 0) 27) b fun b c=>
 RR (sOp (.extract (.const a) 1) 27) c fun a c=>
 RR (sOp (.alloc 27) 0) c fun c d=>
 RR (sOp (.alloc 27) 0) d fun d e=>
 RR (sOp (.store 27 (.const c) (.const b)) 0) e fun _ b=>
 RR (sOp (.store 27 (.const d) (.const a)) 0) b fun _ a=>
 RR (sOp (.fieldAddr 27 (.const d) 0) 0) a fun a b=>
 RR (sOp (.load 25 (.const a)) 25) b fun a b=>
 RR (bP 27 [(0,a)]) b fun a b=>
 RR (sOp (.alloc 27) 0) b fun b d=>
 RR (sOp (.store 27 (.const b) (.const a)) 0) d fun _ a=>
 RR (sOp (.load 27 (.const c)) 27) a fun a d=>
 RR (sOp (.load 27 (.const b)) 27) d fun d e=>
 RR (aF (.func (.func 6) #[] #[]) [a,d]) e fun a d=>
 RR (sOp (.extract (.const a) 0) 27) d fun d e=>
 RR (sOp (.extract (.const a) 1) 4) e fun a e=>
 RR (sOp (.alloc 27) 0) e fun e f=>
 RR (sOp (.store 27 (.const e) (.const d)) 0) f fun _ d=>
 RR (sOp (.load 27 (.const c)) 27) d fun d f=>
 RR (sOp (.load 27 (.const b)) 27) f fun b f=>
 RR (aF (.func (.func 7) #[] #[]) [d,b]) f fun b d=>
 RR (sOp (.extract (.const b) 0) 27) d fun d f=>
 RR (sOp (.extract (.const b) 1) 4) f fun b f=>
 RR (sOp (.alloc 27) 0) f fun f g=>
 RR (sOp (.store 27 (.const f) (.const d)) 0) g fun _ d=>
 (∃ g:Value->World->Prop,(
 RR (av .neq 4 false false a b) d fun b c=>
 ((fun a:VW=>ai b false (
 RR (sOp (.load 27 (.const e)) 27) c fun c d=>
 RR (sOp (.load 27 (.const f)) 27) d fun d e=>
 RR (aF (.func (.func 8) #[] #[]) [c,d]) e fun c d=>
 RR (sOp (.unOp .not 4 (.const c)) 4) d fun c d=>
 RR (sOp (.pick (.const b) (.const (.bool true)) (.const c)) 4) d fun b c=>a b c) (
 RR (sOp (.pick (.const b) (.const (.bool true)) (.const undef)) 4) c fun b c=>a b c)) fun b c=>
 ai b false (
 RR (sOp (.unOp .not 4 (.const a)) 4) c fun a c=>
 RR (sOp (.pick (.const b) (.const (.bool true)) (.const a)) 4) c fun a b=>
 g a b) (
 RR (sOp (.pick (.const b) (.const (.bool true)) (.const undef)) 4) c fun a b=>
 g a b)))/\
 ∀ d _ _ _ _ _ _ _ _ _ _ _ _:Value,∀ h:World,g d h->
 CondV d (
 RR (av .eql 4 false false a b) h fun a b=>
 ai a true (
 RR (sOp (.load 27 (.const e)) 27) b fun b c=>
 RR (sOp (.load 27 (.const f)) 27) c fun c d=>
 RR (aF (.func (.func 8) #[] #[]) [b,c]) d fun b c=>
 RR (sOp (.pick (.const a) (.const b) (.const (.bool false))) 4) c fun a b=>
 R (.returned a) b) (
 RR (sOp (.pick (.const a) (.const undef) (.const (.bool false))) 4) b fun a b=>
 R (.returned a) b)) (
 RR (sOp (.fieldAddr 27 (.const e) 1) 0) h fun a b=>
 RR (sOp (.load 23 (.const a)) 23) b fun a b=>
 RR (aE .len #[23] 3 [false] [a]) b fun a b=>
 RR (sOp (.fieldAddr 27 (.const c) 1) 0) b fun b d=>
 RR (sOp (.load 23 (.const b)) 23) d fun b d=>
 RR (aE .len #[23] 3 [false] [b]) d fun b d=>
 RR (av .sub 3 false true b (.int .i64 1)) d fun b d=>
 RR (av .eql 3 false false a b) d fun a b=>
 ai a true (
 RR (sOp (.fieldAddr 27 (.const e) 0) 0) b fun b d=>
 RR (sOp (.load 25 (.const b)) 25) d fun b d=>
 RR (sOp (.fieldAddr 27 (.const c) 0) 0) d fun c d=>
 RR (sOp (.load 25 (.const c)) 25) d fun c d=>
 RR (aF (.func (.func 9) #[] #[]) [b,c]) d fun b c=>
 RR (sOp (.pick (.const a) (.const b) (.const (.bool false))) 4) c fun a b=>
 R (.returned a) b) (
 RR (sOp (.pick (.const a) (.const undef) (.const (.bool false))) 4) b fun a b=>
 R (.returned a) b))))
theorem mN {p0:Value} {w:World} {R:Ending->World->Prop} (h:jJ p0 w R):Calls Tryz.prog 3 #[p0] w R:=
  aK (.seq none .leaf (.seq none .leaf (.seq none .leaf (.seq none .leaf (.seq none .leaf (.seq none .leaf (.seq none (.seq (some [45]) .leaf .leaf) .leaf))))))) [p0] bp Tryz.func3 (by kernel_rfl) (by kernel_rfl) h


/- loop.example/prologserver/laws.FnResolvent : function 4 -/
def lA (p0:Value) (w:World) (R:Ending->World->Prop):Prop:=
 RR (aE .len #[22] 3 [false] [p0]) w fun a b=>
 RR (av .gtr 3 false true a (.int .i64 1048576)) b fun a b=>
 CondV a (
 R (.returned (.bool true)) b) (
 RR (aF (.func (.func 5) #[] #[]) [p0]) b fun a b=>
 RR (sOp (.extract (.const a) 0) 27) b fun b c=>
 RR (sOp (.extract (.const a) 1) 27) c fun a c=>
 RR (sOp (.alloc 27) 0) c fun c d=>
 RR (sOp (.alloc 27) 0) d fun d e=>
 RR (sOp (.store 27 (.const c) (.const b)) 0) e fun _ b=>
 RR (sOp (.store 27 (.const d) (.const a)) 0) b fun _ a=>
 RR (sOp (.load 27 (.const c)) 27) a fun a b=>
 RR (sOp (.load 27 (.const d)) 27) b fun b e=>
 RR (aF (.func (.func 6) #[] #[]) [a,b]) e fun a b=>
 RR (sOp (.extract (.const a) 0) 27) b fun b e=>
 RR (sOp (.extract (.const a) 1) 4) e fun a e=>
 RR (sOp (.alloc 27) 0) e fun e f=>
 RR (sOp (.store 27 (.const e) (.const b)) 0) f fun _ b=>
 RR (sOp (.load 27 (.const c)) 27) b fun b f=>
 RR (sOp (.load 27 (.const d)) 27) f fun f g=>
 RR (aF (.func (.func 7) #[] #[]) [b,f]) g fun b f=>
 RR (sOp (.extract (.const b) 0) 27) f fun f g=>
 RR (sOp (.extract (.const b) 1) 4) g fun b g=>
 RR (sOp (.alloc 27) 0) g fun g h=>
 RR (sOp (.store 27 (.const g) (.const f)) 0) h fun _ f=>
 (∃ h:Value->World->Prop,(
 RR (av .neq 4 false false a b) f fun b c=>
 ((fun a:VW=>ai b false (
 RR (sOp (.load 27 (.const e)) 27) c fun c d=>
 RR (sOp (.load 27 (.const g)) 27) d fun d e=>
 RR (aF (.func (.func 8) #[] #[]) [c,d]) e fun c d=>
 RR (sOp (.unOp .not 4 (.const c)) 4) d fun c d=>
 RR (sOp (.pick (.const b) (.const (.bool true)) (.const c)) 4) d fun b c=>a b c) (
 RR (sOp (.pick (.const b) (.const (.bool true)) (.const undef)) 4) c fun b c=>a b c)) fun b c=>
 ai b false (
 RR (sOp (.unOp .not 4 (.const a)) 4) c fun a c=>
 RR (sOp (.pick (.const b) (.const (.bool true)) (.const a)) 4) c fun a b=>
 h a b) (
 RR (sOp (.pick (.const b) (.const (.bool true)) (.const undef)) 4) c fun a b=>
 h a b)))/\
 ∀ f _ _ _ _ _ _ _ _ _ _ _ _:Value,∀ i:World,h f i->
 CondV f (
 RR (av .eql 4 false false a b) i fun a b=>
 ai a true (
 RR (sOp (.load 27 (.const e)) 27) b fun b c=>
 RR (sOp (.load 27 (.const g)) 27) c fun c d=>
 RR (aF (.func (.func 8) #[] #[]) [b,c]) d fun b c=>
 RR (sOp (.pick (.const a) (.const b) (.const (.bool false))) 4) c fun a b=>
 R (.returned a) b) (
 RR (sOp (.pick (.const a) (.const undef) (.const (.bool false))) 4) b fun a b=>
 R (.returned a) b)) (
 RR (sOp (.load 27 (.const e)) 27) i fun a b=>
 RR (aF (.func (.func 10) #[] #[]) [a]) b fun a b=>
 RR (sOp (.extract (.const a) 0) 27) b fun b f=>
 RR (sOp (.extract (.const a) 1) 4) f fun a f=>
 RR (sOp (.alloc 27) 0) f fun f g=>
 RR (sOp (.store 27 (.const f) (.const b)) 0) g fun _ b=>
 RR (sOp (.load 27 (.const e)) 27) b fun b g=>
 RR (aF (.func (.func 11) #[] #[]) [b]) g fun b g=>
 ((fun a:VW=>ai b true (
 RR (sOp (.fieldAddr 27 (.const e) 1) 0) g fun e f=>
 RR (sOp (.load 23 (.const e)) 23) f fun e f=>
 RR (aE .len #[23] 3 [false] [e]) f fun e f=>
 RR (sOp (.fieldAddr 27 (.const c) 1) 0) f fun c f=>
 RR (sOp (.load 23 (.const c)) 23) f fun c f=>
 RR (aE .len #[23] 3 [false] [c]) f fun c f=>
 RR (sOp (.fieldAddr 27 (.const d) 1) 0) f fun d f=>
 RR (sOp (.load 23 (.const d)) 23) f fun d f=>
 RR (aE .len #[23] 3 [false] [d]) f fun d f=>
 RR (av .add 3 false false c d) f fun c d=>
 RR (av .sub 3 false true c (.int .i64 1)) d fun c d=>
 RR (av .eql 3 false false e c) d fun c d=>
 RR (sOp (.pick (.const b) (.const c) (.const (.bool false))) 4) d fun b c=>a b c) (
 RR (sOp (.pick (.const b) (.const undef) (.const (.bool false))) 4) g fun b c=>a b c)) fun b d=>
 ((fun a:VW=>ai b true (
 RR (sOp (.fieldAddr 27 (.const e) 0) 0) d fun d e=>
 RR (sOp (.load 25 (.const d)) 25) e fun d e=>
 RR (sOp (.fieldAddr 27 (.const c) 0) 0) e fun c e=>
 RR (sOp (.load 25 (.const c)) 25) e fun c e=>
 RR (aF (.func (.func 9) #[] #[]) [d,c]) e fun c d=>
 RR (sOp (.pick (.const b) (.const c) (.const (.bool false))) 4) d fun b c=>a b c) (
 RR (sOp (.pick (.const b) (.const undef) (.const (.bool false))) 4) d fun b c=>a b c)) fun b c=>
 ((fun d:VW=>ai b true (
 RR (sOp (.pick (.const b) (.const a) (.const (.bool false))) 4) c fun a b=>d a b) (
 RR (sOp (.pick (.const b) (.const undef) (.const (.bool false))) 4) c fun a b=>d a b)) fun a b=>
 ai a true (
 RR (sOp (.load 27 (.const f)) 27) b fun b c=>
 RR (sOp (.load 27 (.const e)) 27) c fun c d=>
 RR (aF (.func (.func 8) #[] #[]) [b,c]) d fun b c=>
 RR (sOp (.pick (.const a) (.const b) (.const (.bool false))) 4) c fun a b=>
 R (.returned a) b) (
 RR (sOp (.pick (.const a) (.const undef) (.const (.bool false))) 4) b fun a b=>
 R (.returned a) b)))))))
theorem o7 {p0:Value} {w:World} {R:Ending->World->Prop} (h:lA p0 w R):Calls Tryz.prog 4 #[p0] w R:=
  aK (.seq none .leaf (.seq none .leaf (.seq none .leaf (.seq none .leaf (.seq none .leaf (.seq none (.seq (some [43]) .leaf .leaf) .leaf)))))) [p0] bp Tryz.func4 (by kernel_rfl) (by kernel_rfl) h


/- loop.example/prologserver/spec.DrawResolvent : function 5 -/
def jW (p0:Value) (w:World) (R:Ending->World->Prop):Prop:=
 RR (sOp (.alloc 27) 0) w fun a b=>
 RR (sOp (.alloc 27) 0) b fun b c=>
 RR (aF (.func (.func 12) #[] #[]) [p0]) c fun c d=>
 RR (aF (.func (.func 13) #[] #[]) [c]) d fun d e=>
 RR (sOp (.extract (.const d) 0) 39) e fun e f=>
 RR (sOp (.extract (.const d) 1) 23) f fun _ d=>
 (∃ f:Value->World->Prop,(
 RR (aF (.func (.func 14) #[] #[]) [c,(.int .i64 3)]) d fun a b=>
 RR (av .eql 3 false true a (.int .i64 0)) b fun a b=>
 CondV a (
 RR (aF (.func (.func 15) #[] #[]) [c]) b fun a b=>
 f a b) (
 f e b))/\
 ∀ d _ _ _ _ _:Value,∀ e:World,f d e->
 RR (aE .len #[39] 3 [false] [d]) e fun e f=>
 RR (aF (.func (.func 14) #[] #[]) [c,e]) f fun e f=>
 RR (sOp (.indexAddr 39 (.const d) (.const e)) 0) f fun e f=>
 RR (sOp (.load 27 (.const e)) 27) f fun e f=>
 RR (aF (.func (.func 16) #[] #[]) [c,e]) f fun e f=>
 RR (aE .len #[39] 3 [false] [d]) f fun f g=>
 RR (aF (.func (.func 14) #[] #[]) [c,f]) g fun f g=>
 RR (sOp (.indexAddr 39 (.const d) (.const f)) 0) g fun d f=>
 RR (sOp (.load 27 (.const d)) 27) f fun d f=>
 RR (aF (.func (.func 16) #[] #[]) [c,d]) f fun c d=>
 RR (sOp (.store 27 (.const a) (.const e)) 0) d fun _ d=>
 RR (sOp (.store 27 (.const b) (.const c)) 0) d fun _ c=>
 (a4 Tryz.prog 27 a c fun a=>(a4 Tryz.prog 27 b c fun b=>R (.returned (.tuple #[a,b])) c)))
theorem mP {p0:Value} {w:World} {R:Ending->World->Prop} (h:jW p0 w R):Calls Tryz.prog 5 #[p0] w R:=
  aK (.seq none .leaf (.seq none .leaf (.seq none .leaf (.seq (some [5]) .leaf .leaf)))) [p0] bp Tryz.func5 (by kernel_rfl) (by kernel_rfl) h


/- loop.example/prologserver/impl.Resolvent : function 6 -/
def nl (p0 p1:Value) (w:World) (R:Ending->World->Prop):Prop:=
 RR (sOp (.box 27 (.const p0)) 0) w fun a b=>
 RR (sOp (.box 27 (.const p1)) 0) b fun b c=>
 RR (sOp (.alloc 27) 0) c fun c d=>
 (∃ e:Value->World->Prop,(
 RR (sOp (.load 27 (.const a)) 27) d fun c d=>
 RR (aF (.func (.func 11) #[] #[]) [c]) d fun c d=>
 RR (sOp (.unOp .not 4 (.const c)) 4) d fun c d=>
 ((fun a:VW=>ai c false (
 RR (sOp (.load 27 (.const b)) 27) d fun b d=>
 RR (aF (.func (.func 11) #[] #[]) [b]) d fun b d=>
 RR (sOp (.unOp .not 4 (.const b)) 4) d fun b d=>
 RR (sOp (.pick (.const c) (.const (.bool true)) (.const b)) 4) d fun b c=>a b c) (
 RR (sOp (.pick (.const c) (.const (.bool true)) (.const undef)) 4) d fun b c=>a b c)) fun b c=>
 ai b false (
 RR (sOp (.load 27 (.const a)) 27) c fun a c=>
 RR (aF (.func (.func 17) #[] #[]) [a]) c fun a c=>
 RR (sOp (.unOp .not 4 (.const a)) 4) c fun a c=>
 RR (sOp (.pick (.const b) (.const (.bool true)) (.const a)) 4) c fun a b=>
 e a b) (
 RR (sOp (.pick (.const b) (.const (.bool true)) (.const undef)) 4) c fun a b=>
 e a b)))/\
 ∀ d _ _ _ _ _ _ _ _ _ _ _ _:Value,∀ f:World,e d f->
 CondV d (
 RR (bP 27 []) f fun a b=>
 RR (sOp (.store 27 (.const c) (.const a)) 0) b fun _ a=>
 (a4 Tryz.prog 27 c a fun b=>R (.returned (.tuple #[b,(.bool false)])) a)) (
 RR (sOp (.load 27 (.const a)) 27) f fun a d=>
 RR (sOp (.load 27 (.const b)) 27) d fun b d=>
 RR (aF (.func (.func 18) #[] #[]) [a,b]) d fun a b=>
 RR (sOp (.extract (.const a) 0) 27) b fun b d=>
 RR (sOp (.extract (.const a) 1) 4) d fun _ d=>
 RR (sOp (.extract (.const a) 2) 4) d fun a d=>
 RR (sOp (.alloc 27) 0) d fun d e=>
 RR (sOp (.store 27 (.const d) (.const b)) 0) e fun _ b=>
 RR (sOp (.unOp .not 4 (.const a)) 4) b fun a b=>
 CondV a (
 RR (bP 27 []) b fun a b=>
 RR (sOp (.store 27 (.const c) (.const a)) 0) b fun _ a=>
 (a4 Tryz.prog 27 c a fun b=>R (.returned (.tuple #[b,(.bool false)])) a)) (
 RR (sOp (.load 27 (.const d)) 27) b fun a b=>
 RR (sOp (.store 27 (.const c) (.const a)) 0) b fun _ a=>
 (a4 Tryz.prog 27 c a fun b=>R (.returned (.tuple #[b,(.bool true)])) a))))
theorem tn {p0 p1:Value} {w:World} {R:Ending->World->Prop} (h:nl p0 p1 w R):Calls Tryz.prog 6 #[p0,p1] w R:=
  aK (.seq none .leaf (.seq none (.seq (some [21]) .leaf .leaf) .leaf)) [p0,p1] bp Tryz.func6 (by kernel_rfl) (by kernel_rfl) h


/- loop.example/prologserver/spec.Resolvent : function 7 -/
def mZ (p0 p1:Value) (w:World) (R:Ending->World->Prop):Prop:=
 RR (sOp (.box 27 (.const p0)) 0) w fun a b=>
 RR (sOp (.box 27 (.const p1)) 0) b fun b c=>
 RR (sOp (.alloc 27) 0) c fun c d=>
 (∃ e:Value->World->Prop,(
 RR (sOp (.load 27 (.const a)) 27) d fun c d=>
 RR (aF (.func (.func 19) #[] #[]) [c]) d fun c d=>
 RR (sOp (.unOp .not 4 (.const c)) 4) d fun c d=>
 ((fun a:VW=>ai c false (
 RR (sOp (.load 27 (.const b)) 27) d fun b d=>
 RR (aF (.func (.func 19) #[] #[]) [b]) d fun b d=>
 RR (sOp (.unOp .not 4 (.const b)) 4) d fun b d=>
 RR (sOp (.pick (.const c) (.const (.bool true)) (.const b)) 4) d fun b c=>a b c) (
 RR (sOp (.pick (.const c) (.const (.bool true)) (.const undef)) 4) d fun b c=>a b c)) fun b c=>
 ai b false (
 RR (sOp (.load 27 (.const a)) 27) c fun a c=>
 RR (aF (.func (.func 20) #[] #[]) [a]) c fun a c=>
 RR (sOp (.unOp .not 4 (.const a)) 4) c fun a c=>
 RR (sOp (.pick (.const b) (.const (.bool true)) (.const a)) 4) c fun a b=>
 e a b) (
 RR (sOp (.pick (.const b) (.const (.bool true)) (.const undef)) 4) c fun a b=>
 e a b)))/\
 ∀ d _ _ _ _ _ _ _ _ _ _ _ _:Value,∀ f:World,e d f->
 CondV d (
 RR (bP 27 []) f fun a b=>
 RR (sOp (.store 27 (.const c) (.const a)) 0) b fun _ a=>
 (a4 Tryz.prog 27 c a fun b=>R (.returned (.tuple #[b,(.bool false)])) a)) (
 RR (sOp (.load 27 (.const a)) 27) f fun a d=>
 RR (sOp (.load 27 (.const b)) 27) d fun b d=>
 RR (aF (.func (.func 21) #[] #[]) [a,b]) d fun a b=>
 RR (sOp (.extract (.const a) 0) 27) b fun b d=>
 RR (sOp (.extract (.const a) 1) 4) d fun d e=>
 RR (sOp (.extract (.const a) 2) 4) e fun a e=>
 RR (sOp (.alloc 27) 0) e fun e f=>
 RR (sOp (.store 27 (.const e) (.const b)) 0) f fun _ b=>
 (∃ f:Value->World->Prop,(
 RR (sOp (.unOp .not 4 (.const d)) 4) b fun b c=>
 ai b false (
 RR (sOp (.unOp .not 4 (.const a)) 4) c fun a c=>
 RR (sOp (.pick (.const b) (.const (.bool true)) (.const a)) 4) c fun a b=>
 f a b) (
 RR (sOp (.pick (.const b) (.const (.bool true)) (.const undef)) 4) c fun a b=>
 f a b))/\
 ∀ a _ _ _ _ _:Value,∀ b:World,f a b->
 CondV a (
 RR (bP 27 []) b fun a b=>
 RR (sOp (.store 27 (.const c) (.const a)) 0) b fun _ a=>
 (a4 Tryz.prog 27 c a fun b=>R (.returned (.tuple #[b,(.bool false)])) a)) (
 RR (sOp (.load 27 (.const e)) 27) b fun a b=>
 RR (aF (.func (.func 22) #[] #[]) [a]) b fun a b=>
 RR (sOp (.store 27 (.const c) (.const a)) 0) b fun _ a=>
 (a4 Tryz.prog 27 c a fun b=>R (.returned (.tuple #[b,(.bool true)])) a)))))
theorem sJ {p0 p1:Value} {w:World} {R:Ending->World->Prop} (h:mZ p0 p1 w R):Calls Tryz.prog 7 #[p0,p1] w R:=
  aK (.seq none .leaf (.seq none (.seq (some [21]) .leaf .leaf) (.seq none .leaf (.seq none (.seq (some [35]) .leaf .leaf) .leaf)))) [p0,p1] bp Tryz.func7 (by kernel_rfl) (by kernel_rfl) h


/- loop.example/prologserver/impl.ClauseSame : function 8 -/
def mo (p0 p1:Value) (w:World) (R:Ending->World->Prop):Prop:=
 RR (sOp (.box 27 (.const p0)) 0) w fun a b=>
 RR (sOp (.box 27 (.const p1)) 0) b fun b c=>
 RR (sOp (.fieldAddr 27 (.const a) 0) 0) c fun c d=>
 RR (sOp (.load 25 (.const c)) 25) d fun c d=>
 RR (sOp (.fieldAddr 27 (.const b) 0) 0) d fun d e=>
 RR (sOp (.load 25 (.const d)) 25) e fun d e=>
 RR (aF (.func (.func 23) #[] #[]) [c,d]) e fun c d=>
 ai c true (
 RR (sOp (.fieldAddr 27 (.const a) 1) 0) d fun a d=>
 RR (sOp (.load 23 (.const a)) 23) d fun a d=>
 RR (sOp (.fieldAddr 27 (.const b) 1) 0) d fun b d=>
 RR (sOp (.load 23 (.const b)) 23) d fun b d=>
 RR (aF (.func (.func 24) #[] #[]) [a,b,(.func (.func 23) #[] #[])]) d fun a b=>
 RR (sOp (.pick (.const c) (.const a) (.const (.bool false))) 4) b fun a b=>
 R (.returned a) b) (
 RR (sOp (.pick (.const c) (.const undef) (.const (.bool false))) 4) d fun a b=>
 R (.returned a) b)
theorem qv {p0 p1:Value} {w:World} {R:Ending->World->Prop} (h:mo p0 p1 w R):Calls Tryz.prog 8 #[p0,p1] w R:=
  aK .leaf [p0,p1] bp Tryz.func8 (by kernel_rfl) (by kernel_rfl) h


/- loop.example/prologserver/impl.InstanceOf : function 9 -/
def mn (p0 p1:Value) (w:World) (R:Ending->World->Prop):Prop:=
 RR (sOp (.box 25 (.const p0)) 0) w fun a b=>
 RR (sOp (.box 25 (.const p1)) 0) b fun b c=>
 RR (sOp (.load 25 (.const a)) 25) c fun c d=>
 RR (aF (.func (.func 25) #[] #[]) [c]) d fun c d=>
 ((fun a:VW=>ai c true (
 RR (sOp (.load 25 (.const b)) 25) d fun b d=>
 RR (aF (.func (.func 25) #[] #[]) [b]) d fun b d=>
 RR (sOp (.pick (.const c) (.const b) (.const (.bool false))) 4) d fun b c=>a b c) (
 RR (sOp (.pick (.const c) (.const undef) (.const (.bool false))) 4) d fun b c=>a b c)) fun c d=>
 ai c true (
 RR (sOp (.load 25 (.const a)) 25) d fun a d=>
 RR (sOp (.load 25 (.const b)) 25) d fun b d=>
 RR (sOp (.makeMap 51 none) 51) d fun d e=>
 RR (aF (.func (.func 26) #[] #[]) [a,b,d]) e fun a b=>
 RR (sOp (.pick (.const c) (.const a) (.const (.bool false))) 4) b fun a b=>
 R (.returned a) b) (
 RR (sOp (.pick (.const c) (.const undef) (.const (.bool false))) 4) d fun a b=>
 R (.returned a) b))
theorem p7 {p0 p1:Value} {w:World} {R:Ending->World->Prop} (h:mn p0 p1 w R):Calls Tryz.prog 9 #[p0,p1] w R:=
  aK .leaf [p0,p1] bp Tryz.func9 (by kernel_rfl) (by kernel_rfl) h


/- loop.example/prologserver/impl.RenumberClause : function 10 -/
def jq (p0:Value) (w:World) (R:Ending->World->Prop):Prop:=
 RR (sOp (.box 27 (.const p0)) 0) w fun a b=>
 RR (sOp (.alloc 27) 0) b fun b c=>
 RR (sOp (.load 27 (.const a)) 27) c fun c d=>
 RR (aF (.func (.func 11) #[] #[]) [c]) d fun c d=>
 RR (sOp (.unOp .not 4 (.const c)) 4) d fun c d=>
 CondV c (
 RR (bP 27 []) d fun a c=>
 RR (sOp (.store 27 (.const b) (.const a)) 0) c fun _ a=>
 (a4 Tryz.prog 27 b a fun b=>R (.returned (.tuple #[b,(.bool false)])) a)) (
 RR (sOp (.load 27 (.const a)) 27) d fun a c=>
 RR (aF (.func (.func 28) #[] #[]) [a]) c fun a c=>
 RR (aF (.func (.func 27) #[] #[]) [a]) c fun a c=>
 RR (sOp (.store 27 (.const b) (.const a)) 0) c fun _ a=>
 (a4 Tryz.prog 27 b a fun b=>R (.returned (.tuple #[b,(.bool true)])) a))
theorem l9 {p0:Value} {w:World} {R:Ending->World->Prop} (h:jq p0 w R):Calls Tryz.prog 10 #[p0] w R:=
  aK .leaf [p0] bp Tryz.func10 (by kernel_rfl) (by kernel_rfl) h


/- loop.example/prologserver/impl.ClauseValid : function 11 -/
def kX (p0:Value) (w:World) (R:Ending->World->Prop):Prop:=
 RR (sOp (.box 27 (.const p0)) 0) w fun a b=>
 RR (sOp (.fieldAddr 27 (.const a) 0) 0) b fun b c=>
 RR (sOp (.load 25 (.const b)) 25) c fun b c=>
 RR (aF (.func (.func 25) #[] #[]) [b]) c fun b c=>
 ((fun d:VW=>ai b true (
 RR (sOp (.fieldAddr 27 (.const a) 0) 0) c fun a c=>
 RR (sOp (.load 25 (.const a)) 25) c fun a c=>
 RR (aF (.func (.func 29) #[] #[]) [a]) c fun a c=>
 RR (sOp (.pick (.const b) (.const a) (.const (.bool false))) 4) c fun a b=>d a b) (
 RR (sOp (.pick (.const b) (.const undef) (.const (.bool false))) 4) c fun a b=>d a b)) fun b c=>
 ai b true (
 RR (sOp (.fieldAddr 27 (.const a) 1) 0) c fun a c=>
 RR (sOp (.load 23 (.const a)) 23) c fun a c=>
 RR (aF (.func (.func 30) #[] #[]) [a]) c fun a c=>
 RR (sOp (.pick (.const b) (.const a) (.const (.bool false))) 4) c fun a b=>
 R (.returned a) b) (
 RR (sOp (.pick (.const b) (.const undef) (.const (.bool false))) 4) c fun a b=>
 R (.returned a) b))
theorem oY {p0:Value} {w:World} {R:Ending->World->Prop} (h:kX p0 w R):Calls Tryz.prog 11 #[p0] w R:=
  aK .leaf [p0] bp Tryz.func11 (by kernel_rfl) (by kernel_rfl) h


/- loop.example/prologserver/spec.l18Open : function 12 -/
def si (p0:Value) (w:World) (R:Ending->World->Prop):Prop:=
 (∃ a:Value->World->Prop,(
 RR (aE .len #[22] 3 [false] [p0]) w fun b c=>
 RR (av .gtr 3 false true b (.int .i64 2000)) c fun b c=>
 CondV b (
 RR (sOp (.slice 22 (.const p0) none (some (.const (.int .i64 2000))) none) 22) c fun b c=>
 a b c) (
 a p0 c))/\
 ∀ b _ _ _ _ _:Value,∀ c:World,a b c->
 RR (bP 54 [(0,b)]) c fun a b=>
 RR (sOp (.box 54 (.const a)) 37) b fun a b=>
 R (.returned a) b)
theorem wB {p0:Value} {w:World} {R:Ending->World->Prop} (h:si p0 w R):Calls Tryz.prog 12 #[p0] w R:=
  aK (.seq none .leaf (.seq (some [0]) .leaf .leaf)) [p0] bp Tryz.func12 (by kernel_rfl) (by kernel_rfl) h


/- loop.example/prologserver/spec.l15Pair : function 13 -/
def rI (p0:Value) (w:World) (R:Ending->World->Prop):Prop:=
 RR (aF (.func (.func 31) #[] #[]) []) w fun a b=>
 RR (aE .len #[55] 3 [false] [a]) b fun a b=>
 RR (aF (.func (.func 14) #[] #[]) [p0,a]) b fun a b=>
 (∃ c:Value->World->Prop,(
 RR (aF (.func (.func 14) #[] #[]) [p0,(.int .i64 3)]) b fun b d=>
 RR (av .gtr 3 false true b (.int .i64 0)) d fun b d=>
 CondV b (
 RR (aF (.func (.func 14) #[] #[]) [p0,(.int .i64 4)]) d fun a b=>
 c a b) (
 c a d))/\
 ∀ a _ _ _ _ _:Value,∀ b:World,c a b->
 RR (aF (.func (.func 31) #[] #[]) []) b fun b c=>
 RR (sOp (.indexAddr 55 (.const b) (.const a)) 0) c fun b c=>
 RR (sOp (.load 9 (.const b)) 9) c fun b c=>
 RR (aF (.func (.func 32) #[] #[]) [b]) c fun b c=>
 RR (sOp (.extract (.const b) 0) 39) c fun c d=>
 RR (sOp (.extract (.const b) 1) 4) d fun _ b=>
 RR (aF (.func (.func 34) #[] #[]) []) b fun b d=>
 RR (sOp (.indexAddr 55 (.const b) (.const a)) 0) d fun a b=>
 RR (sOp (.load 9 (.const a)) 9) b fun a b=>
 RR (aF (.func (.func 33) #[] #[]) [a]) b fun a b=>
 RR (sOp (.extract (.const a) 0) 23) b fun b d=>
 RR (sOp (.extract (.const a) 1) 4) d fun _ a=>
 R (.returned (.tuple #[c,b])) a)
theorem wN {p0:Value} {w:World} {R:Ending->World->Prop} (h:rI p0 w R):Calls Tryz.prog 13 #[p0] w R:=
  aK (.seq none .leaf (.seq none .leaf (.seq (some [4]) .leaf .leaf))) [p0] bp Tryz.func13 (by kernel_rfl) (by kernel_rfl) h


/- (*loop.example/prologserver/spec.l18Rd).pick : function 14 -/
def mC (p0 p1:Value) (w:World) (R:Ending->World->Prop):Prop:=
 RR (sOp (.nilCheck (.const p0)) 0) w fun a b=>
 RR (sOp (.fieldAddr 54 (.const a) 1) 0) b fun a b=>
 RR (sOp (.load 3 (.const a)) 3) b fun a b=>
 RR (av .add 3 false true a (.int .i64 1)) b fun a b=>
 RR (sOp (.nilCheck (.const p0)) 0) b fun b c=>
 RR (sOp (.fieldAddr 54 (.const b) 1) 0) c fun b c=>
 RR (sOp (.store 3 (.const b) (.const a)) 0) c fun _ a=>
 (∃ b:Value->World->Prop,(
 RR (av .lss 3 false true p1 (.int .i64 1)) a fun a c=>
 ai a false (
 RR (sOp (.nilCheck (.const p0)) 0) c fun c d=>
 RR (sOp (.fieldAddr 54 (.const c) 0) 0) d fun c d=>
 RR (sOp (.load 22 (.const c)) 22) d fun c d=>
 RR (aE .len #[22] 3 [false] [c]) d fun c d=>
 RR (av .eql 3 false true c (.int .i64 0)) d fun c d=>
 RR (sOp (.pick (.const a) (.const (.bool true)) (.const c)) 4) d fun a c=>
 b a c) (
 RR (sOp (.pick (.const a) (.const (.bool true)) (.const undef)) 4) c fun a c=>
 b a c))/\
 ∀ a _ _ _ _ _ _ _ _ _:Value,∀ c:World,b a c->
 CondV a (
 R (.returned (.int .i64 0)) c) (
 RR (sOp (.nilCheck (.const p0)) 0) c fun a b=>
 RR (sOp (.fieldAddr 54 (.const a) 1) 0) b fun a b=>
 RR (sOp (.load 3 (.const a)) 3) b fun a b=>
 RR (av .sub 3 false true a (.int .i64 1)) b fun a b=>
 RR (sOp (.nilCheck (.const p0)) 0) b fun b c=>
 RR (sOp (.fieldAddr 54 (.const b) 0) 0) c fun b c=>
 RR (sOp (.load 22 (.const b)) 22) c fun b c=>
 RR (aE .len #[22] 3 [false] [b]) c fun b c=>
 RR (av .lss 3 false false a b) c fun b c=>
 CondV b (
 RR (sOp (.nilCheck (.const p0)) 0) c fun b c=>
 RR (sOp (.fieldAddr 54 (.const b) 0) 0) c fun b c=>
 RR (sOp (.load 22 (.const b)) 22) c fun b c=>
 RR (sOp (.indexAddr 22 (.const b) (.const a)) 0) c fun a b=>
 RR (sOp (.load 5 (.const a)) 5) b fun a b=>
 RR (sOp (.convert 5 3 (.const a)) 3) b fun a b=>
 RR (av .rem 3 false false a p1) b fun a b=>
 R (.returned a) b) (
 (∃ b:(Nat->Bool)->Value->Value->Value->Value->Value->Value->Value->Value->Value->Value->Value->Value->Value->Value->Value->Value->Value->Value->Value->Value->Value->Value->Value->Value->Value->Value->Value->Value->Value->Value->Value->Value->Value->Value->Value->Value->Value->Value->Value->Value->Value->Value->Value->Value->Value->Value->World->Prop,b (fun _=>false) undef undef undef undef undef undef undef undef undef undef undef undef undef undef undef undef undef undef undef undef undef undef undef undef undef undef undef undef undef undef undef undef undef undef undef undef undef undef undef undef undef undef undef undef undef undef { c with drawn:=c.drawn+1 }/\(
 (∀ a:Nat->Bool,a 0=false->∀ c d e f g h i j k l m n o p q r s t u v x y z A B C D E F G H I J K L M N O P Q S T U V W X Y,b a c d e f g h i j k l m n o p q r s t u v x y z A B C D E F G H I J K L M N O P Q S T U V W X Y->
 b (ao a 0) c d e f g h i j k l m n o p q r s t u v x y z A B C D E F G H I J K L M N O P Q S T U V W p0 Y)/\
 (∀ a:Nat->Bool,a 1=false->a 0=true->∀ c d e f g h i j k l m n o p q r s t u v x y z A B C D E F G H I J K L M N O P Q S T U V W X Y,b a c d e f g h i j k l m n o p q r s t u v x y z A B C D E F G H I J K L M N O P Q S T U V W X Y->
 RR (sOp (.nilCheck (.const X)) 0) Y fun W Y=>
 b (ao a 1) c d e f g h i j k l m n o p q r s t u v x y z A B C D E F G H I J K L M N O P Q S T U V W X Y)/\
 (∀ a:Nat->Bool,a 2=false->a 1=true->∀ c d e f g h i j k l m n o p q r s t u v x y z A B C D E F G H I J K L M N O P Q S T U V W X Y,b a c d e f g h i j k l m n o p q r s t u v x y z A B C D E F G H I J K L M N O P Q S T U V W X Y->
 RR (sOp (.fieldAddr 54 (.const W) 0) 0) Y fun V Y=>
 b (ao a 2) c d e f g h i j k l m n o p q r s t u v x y z A B C D E F G H I J K L M N O P Q S T U V W X Y)/\
 (∀ a:Nat->Bool,a 3=false->a 2=true->∀ c d e f g h i j k l m n o p q r s t u v x y z A B C D E F G H I J K L M N O P Q S T U V W X Y,b a c d e f g h i j k l m n o p q r s t u v x y z A B C D E F G H I J K L M N O P Q S T U V W X Y->
 RR (sOp (.load 22 (.const V)) 22) Y fun U Y=>
 b (ao a 3) c d e f g h i j k l m n o p q r s t u v x y z A B C D E F G H I J K L M N O P Q S T U V W X Y)/\
 (∀ c:Nat->Bool,c 4=false->∀ d e f g h i j k l m n o p q r s t u v x y z A B C D E F G H I J K L M N O P Q S T U V W X Y Z,b c d e f g h i j k l m n o p q r s t u v x y z A B C D E F G H I J K L M N O P Q S T U V W X Y Z->
 b (ao c 4) d e f g h i j k l m n o p q r s t u v x y z A B C D E F G H I J K L M N O P Q S T a V W X Y Z)/\
 (∀ a:Nat->Bool,a 5=false->∀ c d e f g h i j k l m n o p q r s t u v x y z A B C D E F G H I J K L M N O P Q S T U V W X Y,b a c d e f g h i j k l m n o p q r s t u v x y z A B C D E F G H I J K L M N O P Q S T U V W X Y->
 b (ao a 5) c d e f g h i j k l m n o p q r s t u v x y z A B C D E F G H I J K L M N O P Q p0 T U V W X Y)/\
 (∀ a:Nat->Bool,a 6=false->a 5=true->∀ c d e f g h i j k l m n o p q r s t u v x y z A B C D E F G H I J K L M N O P Q S T U V W X Y,b a c d e f g h i j k l m n o p q r s t u v x y z A B C D E F G H I J K L M N O P Q S T U V W X Y->
 RR (sOp (.nilCheck (.const S)) 0) Y fun Q Y=>
 b (ao a 6) c d e f g h i j k l m n o p q r s t u v x y z A B C D E F G H I J K L M N O P Q S T U V W X Y)/\
 (∀ a:Nat->Bool,a 7=false->a 6=true->∀ c d e f g h i j k l m n o p q r s t u v x y z A B C D E F G H I J K L M N O P Q S T U V W X Y,b a c d e f g h i j k l m n o p q r s t u v x y z A B C D E F G H I J K L M N O P Q S T U V W X Y->
 RR (sOp (.fieldAddr 54 (.const Q) 0) 0) Y fun P Y=>
 b (ao a 7) c d e f g h i j k l m n o p q r s t u v x y z A B C D E F G H I J K L M N O P Q S T U V W X Y)/\
 (∀ a:Nat->Bool,a 8=false->a 7=true->∀ c d e f g h i j k l m n o p q r s t u v x y z A B C D E F G H I J K L M N O P Q S T U V W X Y,b a c d e f g h i j k l m n o p q r s t u v x y z A B C D E F G H I J K L M N O P Q S T U V W X Y->
 RR (sOp (.load 22 (.const P)) 22) Y fun O Y=>
 b (ao a 8) c d e f g h i j k l m n o p q r s t u v x y z A B C D E F G H I J K L M N O P Q S T U V W X Y)/\
 (∀ a:Nat->Bool,a 9=false->a 8=true->∀ c d e f g h i j k l m n o p q r s t u v x y z A B C D E F G H I J K L M N O P Q S T U V W X Y,b a c d e f g h i j k l m n o p q r s t u v x y z A B C D E F G H I J K L M N O P Q S T U V W X Y->
 RR (aE .len #[22] 3 [false] [O]) Y fun N Y=>
 b (ao a 9) c d e f g h i j k l m n o p q r s t u v x y z A B C D E F G H I J K L M N O P Q S T U V W X Y)/\
 (∀ a:Nat->Bool,a 10=false->a 4=true->a 9=true->∀ c d e f g h i j k l m n o p q r s t u v x y z A B C D E F G H I J K L M N O P Q S T U V W X Y,b a c d e f g h i j k l m n o p q r s t u v x y z A B C D E F G H I J K L M N O P Q S T U V W X Y->
 RR (av .rem 3 false false T N) Y fun M Y=>
 b (ao a 10) c d e f g h i j k l m n o p q r s t u v x y z A B C D E F G H I J K L M N O P Q S T U V W X Y)/\
 (∀ a:Nat->Bool,a 11=false->a 3=true->a 10=true->∀ c d e f g h i j k l m n o p q r s t u v x y z A B C D E F G H I J K L M N O P Q S T U V W X Y,b a c d e f g h i j k l m n o p q r s t u v x y z A B C D E F G H I J K L M N O P Q S T U V W X Y->
 RR (sOp (.indexAddr 22 (.const U) (.const M)) 0) Y fun L Y=>
 b (ao a 11) c d e f g h i j k l m n o p q r s t u v x y z A B C D E F G H I J K L M N O P Q S T U V W X Y)/\
 (∀ a:Nat->Bool,a 12=false->a 11=true->∀ c d e f g h i j k l m n o p q r s t u v x y z A B C D E F G H I J K L M N O P Q S T U V W X Y,b a c d e f g h i j k l m n o p q r s t u v x y z A B C D E F G H I J K L M N O P Q S T U V W X Y->
 RR (sOp (.load 5 (.const L)) 5) Y fun K Y=>
 b (ao a 12) c d e f g h i j k l m n o p q r s t u v x y z A B C D E F G H I J K L M N O P Q S T U V W X Y)/\
 (∀ a:Nat->Bool,a 13=false->a 12=true->∀ c d e f g h i j k l m n o p q r s t u v x y z A B C D E F G H I J K L M N O P Q S T U V W X Y,b a c d e f g h i j k l m n o p q r s t u v x y z A B C D E F G H I J K L M N O P Q S T U V W X Y->
 RR (sOp (.convert 5 3 (.const K)) 3) Y fun J Y=>
 b (ao a 13) c d e f g h i j k l m n o p q r s t u v x y z A B C D E F G H I J K L M N O P Q S T U V W X Y)/\
 (∀ a:Nat->Bool,a 14=false->a 13=true->∀ c d e f g h i j k l m n o p q r s t u v x y z A B C D E F G H I J K L M N O P Q S T U V W X Y,b a c d e f g h i j k l m n o p q r s t u v x y z A B C D E F G H I J K L M N O P Q S T U V W X Y->
 RR (av .mul 3 false true J (.int .i64 131)) Y fun I Y=>
 b (ao a 14) c d e f g h i j k l m n o p q r s t u v x y z A B C D E F G H I J K L M N O P Q S T U V W X Y)/\
 (∀ a:Nat->Bool,a 15=false->∀ c d e f g h i j k l m n o p q r s t u v x y z A B C D E F G H I J K L M N O P Q S T U V W X Y,b a c d e f g h i j k l m n o p q r s t u v x y z A B C D E F G H I J K L M N O P Q S T U V W X Y->
 b (ao a 15) c d e f g h i j k l m n o p q r s t u v x y z A B C D E F G p0 I J K L M N O P Q S T U V W X Y)/\
 (∀ a:Nat->Bool,a 16=false->a 15=true->∀ c d e f g h i j k l m n o p q r s t u v x y z A B C D E F G H I J K L M N O P Q S T U V W X Y,b a c d e f g h i j k l m n o p q r s t u v x y z A B C D E F G H I J K L M N O P Q S T U V W X Y->
 RR (sOp (.nilCheck (.const H)) 0) Y fun G Y=>
 b (ao a 16) c d e f g h i j k l m n o p q r s t u v x y z A B C D E F G H I J K L M N O P Q S T U V W X Y)/\
 (∀ a:Nat->Bool,a 17=false->a 16=true->∀ c d e f g h i j k l m n o p q r s t u v x y z A B C D E F G H I J K L M N O P Q S T U V W X Y,b a c d e f g h i j k l m n o p q r s t u v x y z A B C D E F G H I J K L M N O P Q S T U V W X Y->
 RR (sOp (.fieldAddr 54 (.const G) 0) 0) Y fun F Y=>
 b (ao a 17) c d e f g h i j k l m n o p q r s t u v x y z A B C D E F G H I J K L M N O P Q S T U V W X Y)/\
 (∀ a:Nat->Bool,a 18=false->a 17=true->∀ c d e f g h i j k l m n o p q r s t u v x y z A B C D E F G H I J K L M N O P Q S T U V W X Y,b a c d e f g h i j k l m n o p q r s t u v x y z A B C D E F G H I J K L M N O P Q S T U V W X Y->
 RR (sOp (.load 22 (.const F)) 22) Y fun E Y=>
 b (ao a 18) c d e f g h i j k l m n o p q r s t u v x y z A B C D E F G H I J K L M N O P Q S T U V W X Y)/\
 (∀ c:Nat->Bool,c 19=false->∀ d e f g h i j k l m n o p q r s t u v x y z A B C D E F G H I J K L M N O P Q S T U V W X Y Z,b c d e f g h i j k l m n o p q r s t u v x y z A B C D E F G H I J K L M N O P Q S T U V W X Y Z->
 b (ao c 19) d e f g h i j k l m n o p q r s t u v x y z A B C D a F G H I J K L M N O P Q S T U V W X Y Z)/\
 (∀ a:Nat->Bool,a 20=false->a 19=true->∀ c d e f g h i j k l m n o p q r s t u v x y z A B C D E F G H I J K L M N O P Q S T U V W X Y,b a c d e f g h i j k l m n o p q r s t u v x y z A B C D E F G H I J K L M N O P Q S T U V W X Y->
 RR (av .mul 3 false true D (.int .i64 7)) Y fun C Y=>
 b (ao a 20) c d e f g h i j k l m n o p q r s t u v x y z A B C D E F G H I J K L M N O P Q S T U V W X Y)/\
 (∀ a:Nat->Bool,a 21=false->a 20=true->∀ c d e f g h i j k l m n o p q r s t u v x y z A B C D E F G H I J K L M N O P Q S T U V W X Y,b a c d e f g h i j k l m n o p q r s t u v x y z A B C D E F G H I J K L M N O P Q S T U V W X Y->
 RR (av .add 3 false true C (.int .i64 3)) Y fun B Y=>
 b (ao a 21) c d e f g h i j k l m n o p q r s t u v x y z A B C D E F G H I J K L M N O P Q S T U V W X Y)/\
 (∀ a:Nat->Bool,a 22=false->∀ c d e f g h i j k l m n o p q r s t u v x y z A B C D E F G H I J K L M N O P Q S T U V W X Y,b a c d e f g h i j k l m n o p q r s t u v x y z A B C D E F G H I J K L M N O P Q S T U V W X Y->
 b (ao a 22) c d e f g h i j k l m n o p q r s t u v x y z p0 B C D E F G H I J K L M N O P Q S T U V W X Y)/\
 (∀ a:Nat->Bool,a 23=false->a 22=true->∀ c d e f g h i j k l m n o p q r s t u v x y z A B C D E F G H I J K L M N O P Q S T U V W X Y,b a c d e f g h i j k l m n o p q r s t u v x y z A B C D E F G H I J K L M N O P Q S T U V W X Y->
 RR (sOp (.nilCheck (.const A)) 0) Y fun z Y=>
 b (ao a 23) c d e f g h i j k l m n o p q r s t u v x y z A B C D E F G H I J K L M N O P Q S T U V W X Y)/\
 (∀ a:Nat->Bool,a 24=false->a 23=true->∀ c d e f g h i j k l m n o p q r s t u v x y z A B C D E F G H I J K L M N O P Q S T U V W X Y,b a c d e f g h i j k l m n o p q r s t u v x y z A B C D E F G H I J K L M N O P Q S T U V W X Y->
 RR (sOp (.fieldAddr 54 (.const z) 0) 0) Y fun y Y=>
 b (ao a 24) c d e f g h i j k l m n o p q r s t u v x y z A B C D E F G H I J K L M N O P Q S T U V W X Y)/\
 (∀ a:Nat->Bool,a 25=false->a 24=true->∀ c d e f g h i j k l m n o p q r s t u v x y z A B C D E F G H I J K L M N O P Q S T U V W X Y,b a c d e f g h i j k l m n o p q r s t u v x y z A B C D E F G H I J K L M N O P Q S T U V W X Y->
 RR (sOp (.load 22 (.const y)) 22) Y fun x Y=>
 b (ao a 25) c d e f g h i j k l m n o p q r s t u v x y z A B C D E F G H I J K L M N O P Q S T U V W X Y)/\
 (∀ a:Nat->Bool,a 26=false->a 25=true->∀ c d e f g h i j k l m n o p q r s t u v x y z A B C D E F G H I J K L M N O P Q S T U V W X Y,b a c d e f g h i j k l m n o p q r s t u v x y z A B C D E F G H I J K L M N O P Q S T U V W X Y->
 RR (aE .len #[22] 3 [false] [x]) Y fun v Y=>
 b (ao a 26) c d e f g h i j k l m n o p q r s t u v x y z A B C D E F G H I J K L M N O P Q S T U V W X Y)/\
 (∀ a:Nat->Bool,a 27=false->a 21=true->a 26=true->∀ c d e f g h i j k l m n o p q r s t u v x y z A B C D E F G H I J K L M N O P Q S T U V W X Y,b a c d e f g h i j k l m n o p q r s t u v x y z A B C D E F G H I J K L M N O P Q S T U V W X Y->
 RR (av .rem 3 false false B v) Y fun u Y=>
 b (ao a 27) c d e f g h i j k l m n o p q r s t u v x y z A B C D E F G H I J K L M N O P Q S T U V W X Y)/\
 (∀ a:Nat->Bool,a 28=false->a 18=true->a 27=true->∀ c d e f g h i j k l m n o p q r s t u v x y z A B C D E F G H I J K L M N O P Q S T U V W X Y,b a c d e f g h i j k l m n o p q r s t u v x y z A B C D E F G H I J K L M N O P Q S T U V W X Y->
 RR (sOp (.indexAddr 22 (.const E) (.const u)) 0) Y fun t Y=>
 b (ao a 28) c d e f g h i j k l m n o p q r s t u v x y z A B C D E F G H I J K L M N O P Q S T U V W X Y)/\
 (∀ a:Nat->Bool,a 29=false->a 28=true->∀ c d e f g h i j k l m n o p q r s t u v x y z A B C D E F G H I J K L M N O P Q S T U V W X Y,b a c d e f g h i j k l m n o p q r s t u v x y z A B C D E F G H I J K L M N O P Q S T U V W X Y->
 RR (sOp (.load 5 (.const t)) 5) Y fun s Y=>
 b (ao a 29) c d e f g h i j k l m n o p q r s t u v x y z A B C D E F G H I J K L M N O P Q S T U V W X Y)/\
 (∀ a:Nat->Bool,a 30=false->a 29=true->∀ c d e f g h i j k l m n o p q r s t u v x y z A B C D E F G H I J K L M N O P Q S T U V W X Y,b a c d e f g h i j k l m n o p q r s t u v x y z A B C D E F G H I J K L M N O P Q S T U V W X Y->
 RR (sOp (.convert 5 3 (.const s)) 3) Y fun r Y=>
 b (ao a 30) c d e f g h i j k l m n o p q r s t u v x y z A B C D E F G H I J K L M N O P Q S T U V W X Y)/\
 (∀ a:Nat->Bool,a 31=false->a 30=true->∀ c d e f g h i j k l m n o p q r s t u v x y z A B C D E F G H I J K L M N O P Q S T U V W X Y,b a c d e f g h i j k l m n o p q r s t u v x y z A B C D E F G H I J K L M N O P Q S T U V W X Y->
 RR (av .mul 3 false true r (.int .i64 1117)) Y fun q Y=>
 b (ao a 31) c d e f g h i j k l m n o p q r s t u v x y z A B C D E F G H I J K L M N O P Q S T U V W X Y)/\
 (∀ a:Nat->Bool,a 32=false->a 14=true->a 31=true->∀ c d e f g h i j k l m n o p q r s t u v x y z A B C D E F G H I J K L M N O P Q S T U V W X Y,b a c d e f g h i j k l m n o p q r s t u v x y z A B C D E F G H I J K L M N O P Q S T U V W X Y->
 RR (av .add 3 false false I q) Y fun p Y=>
 b (ao a 32) c d e f g h i j k l m n o p q r s t u v x y z A B C D E F G H I J K L M N O P Q S T U V W X Y)/\
 (∀ c:Nat->Bool,c 33=false->∀ d e f g h i j k l m n o p q r s t u v x y z A B C D E F G H I J K L M N O P Q S T U V W X Y Z,b c d e f g h i j k l m n o p q r s t u v x y z A B C D E F G H I J K L M N O P Q S T U V W X Y Z->
 b (ao c 33) d e f g h i j k l m n o a q r s t u v x y z A B C D E F G H I J K L M N O P Q S T U V W X Y Z)/\
 (∀ a:Nat->Bool,a 34=false->a 33=true->∀ c d e f g h i j k l m n o p q r s t u v x y z A B C D E F G H I J K L M N O P Q S T U V W X Y,b a c d e f g h i j k l m n o p q r s t u v x y z A B C D E F G H I J K L M N O P Q S T U V W X Y->
 RR (av .mul 3 false true o (.int .i64 29)) Y fun n Y=>
 b (ao a 34) c d e f g h i j k l m n o p q r s t u v x y z A B C D E F G H I J K L M N O P Q S T U V W X Y)/\
 (∀ a:Nat->Bool,a 35=false->a 32=true->a 34=true->∀ c d e f g h i j k l m n o p q r s t u v x y z A B C D E F G H I J K L M N O P Q S T U V W X Y,b a c d e f g h i j k l m n o p q r s t u v x y z A B C D E F G H I J K L M N O P Q S T U V W X Y->
 RR (av .add 3 false false p n) Y fun m Y=>
 b (ao a 35) c d e f g h i j k l m n o p q r s t u v x y z A B C D E F G H I J K L M N O P Q S T U V W X Y)/\
 (∀ c:Nat->Bool,c 36=false->∀ d e f g h i j k l m n o p q r s t u v x y z A B C D E F G H I J K L M N O P Q S T U V W X Y Z,b c d e f g h i j k l m n o p q r s t u v x y z A B C D E F G H I J K L M N O P Q S T U V W X Y Z->
 b (ao c 36) d e f g h i j k l a n o p q r s t u v x y z A B C D E F G H I J K L M N O P Q S T U V W X Y Z)/\
 (∀ a:Nat->Bool,a 37=false->∀ c d e f g h i j k l m n o p q r s t u v x y z A B C D E F G H I J K L M N O P Q S T U V W X Y,b a c d e f g h i j k l m n o p q r s t u v x y z A B C D E F G H I J K L M N O P Q S T U V W X Y->
 b (ao a 37) c d e f g h i j p0 l m n o p q r s t u v x y z A B C D E F G H I J K L M N O P Q S T U V W X Y)/\
 (∀ a:Nat->Bool,a 38=false->a 37=true->∀ c d e f g h i j k l m n o p q r s t u v x y z A B C D E F G H I J K L M N O P Q S T U V W X Y,b a c d e f g h i j k l m n o p q r s t u v x y z A B C D E F G H I J K L M N O P Q S T U V W X Y->
 RR (sOp (.nilCheck (.const k)) 0) Y fun j Y=>
 b (ao a 38) c d e f g h i j k l m n o p q r s t u v x y z A B C D E F G H I J K L M N O P Q S T U V W X Y)/\
 (∀ a:Nat->Bool,a 39=false->a 38=true->∀ c d e f g h i j k l m n o p q r s t u v x y z A B C D E F G H I J K L M N O P Q S T U V W X Y,b a c d e f g h i j k l m n o p q r s t u v x y z A B C D E F G H I J K L M N O P Q S T U V W X Y->
 RR (sOp (.fieldAddr 54 (.const j) 0) 0) Y fun i Y=>
 b (ao a 39) c d e f g h i j k l m n o p q r s t u v x y z A B C D E F G H I J K L M N O P Q S T U V W X Y)/\
 (∀ a:Nat->Bool,a 40=false->a 39=true->∀ c d e f g h i j k l m n o p q r s t u v x y z A B C D E F G H I J K L M N O P Q S T U V W X Y,b a c d e f g h i j k l m n o p q r s t u v x y z A B C D E F G H I J K L M N O P Q S T U V W X Y->
 RR (sOp (.load 22 (.const i)) 22) Y fun h Y=>
 b (ao a 40) c d e f g h i j k l m n o p q r s t u v x y z A B C D E F G H I J K L M N O P Q S T U V W X Y)/\
 (∀ a:Nat->Bool,a 41=false->a 40=true->∀ c d e f g h i j k l m n o p q r s t u v x y z A B C D E F G H I J K L M N O P Q S T U V W X Y,b a c d e f g h i j k l m n o p q r s t u v x y z A B C D E F G H I J K L M N O P Q S T U V W X Y->
 RR (aE .len #[22] 3 [false] [h]) Y fun g Y=>
 b (ao a 41) c d e f g h i j k l m n o p q r s t u v x y z A B C D E F G H I J K L M N O P Q S T U V W X Y)/\
 (∀ a:Nat->Bool,a 42=false->a 36=true->a 41=true->∀ c d e f g h i j k l m n o p q r s t u v x y z A B C D E F G H I J K L M N O P Q S T U V W X Y,b a c d e f g h i j k l m n o p q r s t u v x y z A B C D E F G H I J K L M N O P Q S T U V W X Y->
 RR (av .quo 3 false false l g) Y fun f Y=>
 b (ao a 42) c d e f g h i j k l m n o p q r s t u v x y z A B C D E F G H I J K L M N O P Q S T U V W X Y)/\
 (∀ a:Nat->Bool,a 43=false->a 42=true->∀ c d e f g h i j k l m n o p q r s t u v x y z A B C D E F G H I J K L M N O P Q S T U V W X Y,b a c d e f g h i j k l m n o p q r s t u v x y z A B C D E F G H I J K L M N O P Q S T U V W X Y->
 RR (av .mul 3 false true f (.int .i64 53)) Y fun e Y=>
 b (ao a 43) c d e f g h i j k l m n o p q r s t u v x y z A B C D E F G H I J K L M N O P Q S T U V W X Y)/\
 (∀ a:Nat->Bool,a 44=false->a 35=true->a 43=true->∀ c d e f g h i j k l m n o p q r s t u v x y z A B C D E F G H I J K L M N O P Q S T U V W X Y,b a c d e f g h i j k l m n o p q r s t u v x y z A B C D E F G H I J K L M N O P Q S T U V W X Y->
 RR (av .add 3 false false m e) Y fun d Y=>
 b (ao a 44) c d e f g h i j k l m n o p q r s t u v x y z A B C D E F G H I J K L M N O P Q S T U V W X Y)/\
 (∀ a:Nat->Bool,a 45=false->a 44=true->a 0=true->a 1=true->a 2=true->a 3=true->a 4=true->a 5=true->a 6=true->a 7=true->a 8=true->a 9=true->a 10=true->a 11=true->a 12=true->a 13=true->a 14=true->a 15=true->a 16=true->a 17=true->a 18=true->a 19=true->a 20=true->a 21=true->a 22=true->a 23=true->a 24=true->a 25=true->a 26=true->a 27=true->a 28=true->a 29=true->a 30=true->a 31=true->a 32=true->a 33=true->a 34=true->a 35=true->a 36=true->a 37=true->a 38=true->a 39=true->a 40=true->a 41=true->a 42=true->a 43=true->a 44=true->∀ c d e f g h i j k l m n o p q r s t u v x y z A B C D E F G H I J K L M N O P Q S T U V W X Y,b a c d e f g h i j k l m n o p q r s t u v x y z A B C D E F G H I J K L M N O P Q S T U V W X Y->
 b (ao a 45) d d e f g h i j k l m n o p q r s t u v x y z A B C D E F G H I J K L M N O P Q S T U V W X Y)/\
 True)/\
 ∀ a:Nat->Bool,a 45=true->a 44=true->a 43=true->a 42=true->a 41=true->a 40=true->a 39=true->a 38=true->a 37=true->a 36=true->a 35=true->a 34=true->a 33=true->a 32=true->a 31=true->a 30=true->a 29=true->a 28=true->a 27=true->a 26=true->a 25=true->a 24=true->a 23=true->a 22=true->a 21=true->a 20=true->a 19=true->a 18=true->a 17=true->a 16=true->a 15=true->a 14=true->a 13=true->a 12=true->a 11=true->a 10=true->a 9=true->a 8=true->a 7=true->a 6=true->a 5=true->a 4=true->a 3=true->a 2=true->a 1=true->a 0=true->∀ c d e f g h i j k l m n o p q r s t u v x y z A B C D E F G H I J K L M N O P Q S T U V W X Y,b a c d e f g h i j k l m n o p q r s t u v x y z A B C D E F G H I J K L M N O P Q S T U V W X Y->
 RR (av .quo 3 false true c (.int .i64 64)) Y fun a b=>
 RR (av .xor 3 false false c a) b fun a b=>
 RR (av .rem 3 false false a p1) b fun a b=>
 R (.returned a) b))))
theorem qu {p0 p1:Value} {w:World} {R:Ending->World->Prop} (h:mC p0 p1 w R):Calls Tryz.prog 14 #[p0,p1] w R:=
  aK (.seq none .leaf (.seq none .leaf (.seq none (.seq (some [24]) .leaf .leaf) .leaf))) [p0,p1] bp Tryz.func14 (by kernel_rfl) (by kernel_rfl) h


/- loop.example/prologserver/spec.l4Program : function 15 -/
def ne (p0:Value) (w:World) (R:Ending->World->Prop):Prop:=
 RR (aF (.func (.func 35) #[] #[]) []) w fun a b=>
 RR (aE .len #[55] 3 [false] [a]) b fun b c=>
 RR (aF (.func (.func 14) #[] #[]) [p0,b]) c fun b c=>
 RR (sOp (.indexAddr 55 (.const a) (.const b)) 0) c fun a b=>
 RR (sOp (.load 9 (.const a)) 9) b fun a b=>
 RR (aF (.func (.func 32) #[] #[]) [a]) b fun a b=>
 RR (sOp (.extract (.const a) 0) 39) b fun b c=>
 RR (sOp (.extract (.const a) 1) 4) c fun _ a=>
 R (.returned b) a
theorem sK {p0:Value} {w:World} {R:Ending->World->Prop} (h:ne p0 w R):Calls Tryz.prog 15 #[p0] w R:=
  aK .leaf [p0] bp Tryz.func15 (by kernel_rfl) (by kernel_rfl) h


/- loop.example/prologserver/spec.l4Mutate : function 16 -/
def pe (p0 p1:Value) (w:World) (R:Ending->World->Prop):Prop:=
 RR (sOp (.box 27 (.const p1)) 0) w fun a b=>
 RR (sOp (.alloc 27) 0) b fun b c=>
 RR (sOp (.load 27 (.const a)) 27) c fun a c=>
 RR (aF (.func (.func 22) #[] #[]) [a]) c fun a c=>
 RR (sOp (.alloc 27) 0) c fun c d=>
 RR (sOp (.store 27 (.const c) (.const a)) 0) d fun _ a=>
 (∃ d:World->Prop,(
 RR (aF (.func (.func 14) #[] #[]) [p0,(.int .i64 40)]) a fun a b=>
 RR (av .eql 3 false true a (.int .i64 0)) b fun b e=>
 CondV b (
 RR (aF (.func (.func 37) #[] #[]) [p0]) e fun a b=>
 RR (aF (.func (.func 36) #[] #[]) [p0,a]) b fun a b=>
 RR (sOp (.fieldAddr 27 (.const c) 0) 0) b fun b c=>
 RR (sOp (.store 25 (.const b) (.const a)) 0) c fun _ a=>
 d a) (
 RR (av .eql 3 false true a (.int .i64 1)) e fun b e=>
 CondV b (
 (∃ a:(Nat->Bool)->Value->Value->Value->Value->Value->Value->Value->Value->Value->World->Prop,a (fun _=>false) undef undef undef undef undef undef undef undef undef { e with drawn:=e.drawn+1 }/\(
 (∀ b:Nat->Bool,b 0=false->∀ d e f g h i j k l m,a b d e f g h i j k l m->
 RR (sOp (.fieldAddr 27 (.const c) 1) 0) m fun c l=>
 a (ao b 0) d e f g h i j k c l)/\
 (∀ b:Nat->Bool,b 1=false->b 0=true->∀ c d e f g h i j k l,a b c d e f g h i j k l->
 RR (sOp (.load 23 (.const k)) 23) l fun j l=>
 a (ao b 1) c d e f g h i j k l)/\
 (∀ b:Nat->Bool,b 2=false->∀ c d e f g h i j k l,a b c d e f g h i j k l->
 a (ao b 2) c d e f g h p0 j k l)/\
 (∀ b:Nat->Bool,b 3=false->∀ c d e f g h i j k l,a b c d e f g h i j k l->
 a (ao b 3) c d e f g p0 i j k l)/\
 (∀ b:Nat->Bool,b 4=false->b 3=true->∀ c d e f g h i j k l,a b c d e f g h i j k l->
 RR (aF (.func (.func 37) #[] #[]) [h]) l fun g l=>
 a (ao b 4) c d e f g h i j k l)/\
 (∀ b:Nat->Bool,b 5=false->b 2=true->b 4=true->b 4=true->∀ c d e f g h i j k l,a b c d e f g h i j k l->
 RR (aF (.func (.func 36) #[] #[]) [i,g]) l fun f l=>
 a (ao b 5) c d e f g h i j k l)/\
 (∀ b:Nat->Bool,b 6=false->b 5=true->∀ c d e f g h i j k l,a b c d e f g h i j k l->
 RR (aQ 23 1 [(0,f)]) l fun e l=>
 a (ao b 6) c d e f g h i j k l)/\
 (∀ b:Nat->Bool,b 7=false->b 1=true->b 6=true->b 5=true->∀ c d e f g h i j k l,a b c d e f g h i j k l->
 RR (aE .append #[23,23] 23 [false,false] [j,e]) l fun d l=>
 a (ao b 7) c d e f g h i j k l)/\
 (∀ b:Nat->Bool,b 8=false->b 0=true->b 1=true->b 2=true->b 3=true->b 4=true->b 5=true->b 6=true->b 7=true->∀ d e f g h i j k l m,a b d e f g h i j k l m->
 RR (sOp (.fieldAddr 27 (.const c) 1) 0) m fun c d=>
 a (ao b 8) c e f g h i j k l d)/\
 (∀ b:Nat->Bool,b 9=false->b 8=true->b 7=true->b 7=true->b 0=true->b 1=true->b 2=true->b 3=true->b 4=true->b 5=true->b 6=true->b 7=true->∀ c d e f g h i j k l,a b c d e f g h i j k l->
 RR (sOp (.store 23 (.const c) (.const d)) 0) l fun _ l=>
 a (ao b 9) c d e f g h i j k l)/\
 True)/\
 ∀ b:Nat->Bool,b 9=true->b 8=true->b 7=true->b 6=true->b 5=true->b 4=true->b 3=true->b 2=true->b 1=true->b 0=true->∀ c e f g h i j k l m,a b c e f g h i j k l m->
 d m)) (
 RR (av .eql 3 false true a (.int .i64 2)) e fun b e=>
 CondV b (
 (∃ (a:World->Prop) (b:World->Nat),a e/\
 ∀ e f g h i j _ _ _ _:Value,∀ k:World,a k->
 RR (sOp (.fieldAddr 27 (.const c) 1) 0) k fun l m=>
 RR (sOp (.load 23 (.const l)) 23) m fun l m=>
 RR (aE .len #[23] 3 [false] [l]) m fun l m=>
 RR (av .leq 3 false true l (.int .i64 6)) m fun l m=>
 CondV l (
 (∃ d:(Nat->Bool)->Value->Value->Value->Value->Value->Value->World->Prop,d (fun _=>false) e f g h i j { m with drawn:=m.drawn+1 }/\(
 (∀ a:Nat->Bool,a 0=false->∀ b e f g h i j,d a b e f g h i j->
 RR (sOp (.fieldAddr 27 (.const c) 1) 0) j fun c i=>
 d (ao a 0) b e f g h c i)/\
 (∀ a:Nat->Bool,a 1=false->a 0=true->∀ b c e f g h i,d a b c e f g h i->
 RR (sOp (.load 23 (.const h)) 23) i fun g i=>
 d (ao a 1) b c e f g h i)/\
 (∀ a:Nat->Bool,a 2=false->∀ b c e f g h i,d a b c e f g h i->
 RR (aF (.func (.func 38) #[] #[]) [(.string ⟨#[116,114,117,101]⟩),(Value.slice none 0 0)]) i fun f i=>
 d (ao a 2) b c e f g h i)/\
 (∀ a:Nat->Bool,a 3=false->a 2=true->∀ b c e f g h i,d a b c e f g h i->
 RR (aQ 23 1 [(0,f)]) i fun e i=>
 d (ao a 3) b c e f g h i)/\
 (∀ a:Nat->Bool,a 4=false->a 1=true->a 3=true->a 2=true->∀ b c e f g h i,d a b c e f g h i->
 RR (aE .append #[23,23] 23 [false,false] [g,e]) i fun c i=>
 d (ao a 4) b c e f g h i)/\
 (∀ a:Nat->Bool,a 5=false->a 0=true->a 1=true->a 2=true->a 3=true->a 4=true->∀ b e f g h i j,d a b e f g h i j->
 RR (sOp (.fieldAddr 27 (.const c) 1) 0) j fun b c=>
 d (ao a 5) b e f g h i c)/\
 (∀ a:Nat->Bool,a 6=false->a 5=true->a 4=true->a 4=true->a 0=true->a 1=true->a 2=true->a 3=true->a 4=true->∀ b c e f g h i,d a b c e f g h i->
 RR (sOp (.store 23 (.const b) (.const c)) 0) i fun _ i=>
 d (ao a 6) b c e f g h i)/\
 True)/\
 ∀ c:Nat->Bool,c 6=true->c 5=true->c 4=true->c 3=true->c 2=true->c 1=true->c 0=true->∀ e f g h i j l,d c e f g h i j l->
 a l/\b l<b k)) (
 d m))) (
 RR (av .eql 3 false true a (.int .i64 3)) e fun a b=>
 CondV a (
 RR (aQ 55 5 [(0,(.string ⟨#[116,114,117,101]⟩)),(1,(.string ⟨#[105,115]⟩)),(2,(.string ⟨#[61]⟩)),(3,(.string ⟨#[109,111,100]⟩)),(4,(.string ⟨#[113]⟩))]) b fun a b=>
 RR (aF (.func (.func 39) #[] #[]) [p0,a]) b fun a b=>
 RR (sOp (.fieldAddr 27 (.const c) 0) 0) b fun b c=>
 RR (sOp (.fieldAddr 25 (.const b) 2) 0) c fun b c=>
 RR (sOp (.store 9 (.const b) (.const a)) 0) c fun _ a=>
 d a) (
 d b)))))/\
 ∀ _ _ _ _ _ _ _ _ _ _ _ _ _ _ _ _ _ _ _ _ _ _ _ _ _ _ _ _ _ _ _ _ _ _ _ _ _ _ _:Value,∀ a:World,d a->
 RR (sOp (.load 27 (.const c)) 27) a fun a c=>
 RR (sOp (.store 27 (.const b) (.const a)) 0) c fun _ a=>
 (a4 Tryz.prog 27 b a fun b=>R (.returned b) a))
theorem ui {p0 p1:Value} {w:World} {R:Ending->World->Prop} (h:pe p0 p1 w R):Calls Tryz.prog 16 #[p0,p1] w R:=
  aK (.seq none .leaf (.seq none .leaf (.seq (some []) (.seq none .leaf (.one (.seq none .leaf (.two .leaf (.seq none .leaf (.two .leaf (.seq none .leaf (.two (.one (.loop [] .leaf)) .leaf)))))))) .leaf))) [p0,p1] bp Tryz.func16 (by kernel_rfl) (by kernel_rfl) h


/- loop.example/prologserver/impl.firstPlain : function 17 -/
def mw (p0:Value) (w:World) (R:Ending->World->Prop):Prop:=
 RR (sOp (.box 27 (.const p0)) 0) w fun a b=>
 RR (sOp (.fieldAddr 27 (.const a) 1) 0) b fun b c=>
 RR (sOp (.load 23 (.const b)) 23) c fun b c=>
 RR (aE .len #[23] 3 [false] [b]) c fun b c=>
 RR (av .gtr 3 false true b (.int .i64 0)) c fun b c=>
 ai b true (
 RR (sOp (.fieldAddr 27 (.const a) 1) 0) c fun a c=>
 RR (sOp (.load 23 (.const a)) 23) c fun a c=>
 RR (sOp (.indexAddr 23 (.const a) (.const (.int .i64 0))) 0) c fun a c=>
 RR (sOp (.load 25 (.const a)) 25) c fun a c=>
 RR (aF (.func (.func 29) #[] #[]) [a]) c fun a c=>
 RR (sOp (.pick (.const b) (.const a) (.const (.bool false))) 4) c fun a b=>
 R (.returned a) b) (
 RR (sOp (.pick (.const b) (.const undef) (.const (.bool false))) 4) c fun a b=>
 R (.returned a) b)
theorem ql {p0:Value} {w:World} {R:Ending->World->Prop} (h:mw p0 w R):Calls Tryz.prog 17 #[p0] w R:=
  aK .leaf [p0] bp Tryz.func17 (by kernel_rfl) (by kernel_rfl) h


/- loop.example/prologserver/impl.resolvent : function 18 -/
def mY (p0 p1:Value) (w:World) (R:Ending->World->Prop):Prop:=
 RR (sOp (.box 27 (.const p0)) 0) w fun a b=>
 RR (sOp (.box 27 (.const p1)) 0) b fun b c=>
 RR (sOp (.alloc 27) 0) c fun c d=>
 RR (aF (.func (.func 40) #[] #[]) []) d fun d e=>
 (∃ f:(Nat->Bool)->Value->Value->Value->Value->Value->Value->Value->Value->Value->Value->Value->World->Prop,f (fun _=>false) undef undef undef undef undef undef undef undef undef undef undef { e with drawn:=e.drawn+1 }/\(
 (∀ a:Nat->Bool,a 0=false->∀ b c e g h i j k l m n o,f a b c e g h i j k l m n o->
 f (ao a 0) b c e g h i j k l m d o)/\
 (∀ b:Nat->Bool,b 1=false->∀ c d e g h i j k l m n o,f b c d e g h i j k l m n o->
 RR (sOp (.fieldAddr 27 (.const a) 1) 0) o fun a m=>
 f (ao b 1) c d e g h i j k l a n m)/\
 (∀ a:Nat->Bool,a 2=false->a 1=true->∀ b c d e g h i j k l m n,f a b c d e g h i j k l m n->
 RR (sOp (.load 23 (.const l)) 23) n fun k n=>
 f (ao a 2) b c d e g h i j k l m n)/\
 (∀ a:Nat->Bool,a 3=false->a 2=true->∀ b c d e g h i j k l m n,f a b c d e g h i j k l m n->
 RR (sOp (.indexAddr 23 (.const k) (.const (.int .i64 0))) 0) n fun j n=>
 f (ao a 3) b c d e g h i j k l m n)/\
 (∀ a:Nat->Bool,a 4=false->a 3=true->∀ b c d e g h i j k l m n,f a b c d e g h i j k l m n->
 RR (sOp (.load 25 (.const j)) 25) n fun i n=>
 f (ao a 4) b c d e g h i j k l m n)/\
 (∀ a:Nat->Bool,a 5=false->∀ c d e g h i j k l m n o,f a c d e g h i j k l m n o->
 RR (sOp (.fieldAddr 27 (.const b) 0) 0) o fun b i=>
 f (ao a 5) c d e g h b j k l m n i)/\
 (∀ a:Nat->Bool,a 6=false->a 5=true->∀ b c d e g h i j k l m n,f a b c d e g h i j k l m n->
 RR (sOp (.load 25 (.const h)) 25) n fun g n=>
 f (ao a 6) b c d e g h i j k l m n)/\
 (∀ a:Nat->Bool,a 7=false->∀ b c d e g h i j k l m n,f a b c d e g h i j k l m n->
 f (ao a 7) b c d (.func (.func 41) #[] #[]) g h i j k l m n)/\
 (∀ a:Nat->Bool,a 8=false->a 6=true->a 7=true->∀ b c d e g h i j k l m n,f a b c d e g h i j k l m n->
 RR (aF (.func (.func 44) #[] #[]) [g,e]) n fun d n=>
 f (ao a 8) b c d e g h i j k l m n)/\
 (∀ a:Nat->Bool,a 9=false->a 0=true->a 4=true->a 8=true->a 8=true->∀ b c d e g h i j k l m n,f a b c d e g h i j k l m n->
 RR (aF (.func (.func 43) #[] #[]) [m,i,d]) n fun c n=>
 f (ao a 9) b c d e g h i j k l m n)/\
 (∀ a:Nat->Bool,a 10=false->a 9=true->∀ b c d e g h i j k l m n,f a b c d e g h i j k l m n->
 RR (sOp (.unOp .not 4 (.const c)) 4) n fun b n=>
 f (ao a 10) b c d e g h i j k l m n)/\
 True)/\
 ∀ e:Nat->Bool,e 10=true->e 9=true->e 8=true->e 7=true->e 6=true->e 5=true->e 4=true->e 3=true->e 2=true->e 1=true->e 0=true->∀ g h i j k l m n o p q r,f e g h i j k l m n o p q r->
 CondV g (
 RR (bP 27 []) r fun a b=>
 RR (sOp (.store 27 (.const c) (.const a)) 0) b fun _ a=>
 (a4 Tryz.prog 27 c a fun b=>R (.returned (.tuple #[b,(.bool false),(.bool false)])) a)) (
 RR (sOp (.fieldAddr 27 (.const a) 0) 0) r fun e f=>
 RR (sOp (.load 25 (.const e)) 25) f fun e f=>
 RR (aQ 23 1 [(0,e)]) f fun e f=>
 RR (sOp (.fieldAddr 27 (.const b) 1) 0) f fun b f=>
 RR (sOp (.load 23 (.const b)) 23) f fun b f=>
 RR (aE .len #[23] 3 [false] [b]) f fun f g=>
 (∃ (h:Value->Value->World->Prop) (i:Value->Value->World->Nat),h (.int .i64 0) e g/\
 ∀ e _ g _ _ _ _ _ _ _ _ _ _:Value,∀ j:World,h e g j->
 RR (av .lss 3 false false e f) j fun f k=>
 CondV f (
 RR (sOp (.indexAddr 23 (.const b) (.const e)) 0) k fun a b=>
 RR (sOp (.load 25 (.const a)) 25) b fun a b=>
 RR (sOp (.alloc 25) 0) b fun b c=>
 RR (sOp (.store 25 (.const b) (.const a)) 0) c fun _ a=>
 RR (sOp (.load 25 (.const b)) 25) a fun a b=>
 RR (aF (.func (.func 44) #[] #[]) [a,(.func (.func 41) #[] #[])]) b fun a b=>
 RR (aQ 23 1 [(0,a)]) b fun a b=>
 RR (aE .append #[23,23] 23 [false,false] [g,a]) b fun a b=>
 RR (av .add 3 false true e (.int .i64 1)) b fun b c=>
 h b a c/\i b a c<i e g j) (
 RR (sOp (.fieldAddr 27 (.const a) 1) 0) k fun a b=>
 RR (sOp (.load 23 (.const a)) 23) b fun a b=>
 RR (sOp (.slice 23 (.const a) (some (.const (.int .i64 1))) none none) 23) b fun a b=>
 RR (aE .append #[23,23] 23 [false,false] [g,a]) b fun a b=>
 RR (aE .len #[23] 3 [false] [a]) b fun b e=>
 (∃ (f:Value->World->Prop) (g:Value->World->Nat),f (.int .i64 0) e/\
 ∀ e _ _ _ _ _ h i _ _ _ _ _ _ _ _ _ _ _ _ _ _ _ _ _:Value,∀ j:World,f e j->
 RR (av .lss 3 false false e b) j fun b k=>
 CondV b (
 RR (sOp (.indexAddr 23 (.const a) (.const e)) 0) k fun b h=>
 RR (sOp (.load 25 (.const b)) 25) h fun b h=>
 RR (sOp (.alloc 25) 0) h fun h i=>
 RR (sOp (.store 25 (.const h) (.const b)) 0) i fun _ b=>
 RR (sOp (.load 25 (.const h)) 25) b fun b h=>
 RR (aF (.func (.func 45) #[] #[]) [d,b]) h fun b d=>
 RR (sOp (.extract (.const b) 0) 25) d fun d h=>
 RR (sOp (.extract (.const b) 1) 4) h fun b h=>
 RR (sOp (.alloc 25) 0) h fun h i=>
 RR (sOp (.store 25 (.const h) (.const d)) 0) i fun _ d=>
 RR (sOp (.unOp .not 4 (.const b)) 4) d fun b d=>
 CondV b (
 RR (bP 27 []) d fun a b=>
 RR (sOp (.store 27 (.const c) (.const a)) 0) b fun _ a=>
 (a4 Tryz.prog 27 c a fun b=>R (.returned (.tuple #[b,(.bool true),(.bool false)])) a)) (
 RR (sOp (.load 25 (.const h)) 25) d fun b c=>
 RR (sOp (.indexAddr 23 (.const a) (.const e)) 0) c fun a c=>
 RR (sOp (.store 25 (.const a) (.const b)) 0) c fun _ a=>
 RR (av .add 3 false true e (.int .i64 1)) a fun a b=>
 f a b/\g a b<g e j)) (
 (∃ b:(Nat->Bool)->Value->Value->Value->Value->Value->Value->Value->World->Prop,b (fun _=>false) undef undef undef undef undef undef undef { k with drawn:=k.drawn+1 }/\(
 (∀ c:Nat->Bool,c 0=false->∀ d e f g h i j k,b c d e f g h i j k->
 b (ao c 0) d e f g h i a k)/\
 (∀ a:Nat->Bool,a 1=false->a 0=true->∀ c d e f g h i j,b a c d e f g h i j->
 RR (sOp (.indexAddr 23 (.const i) (.const (.int .i64 0))) 0) j fun h j=>
 b (ao a 1) c d e f g h i j)/\
 (∀ a:Nat->Bool,a 2=false->a 1=true->∀ c d e f g h i j,b a c d e f g h i j->
 RR (sOp (.load 25 (.const h)) 25) j fun g j=>
 b (ao a 2) c d e f g h i j)/\
 (∀ c:Nat->Bool,c 3=false->∀ d e f g h i j k,b c d e f g h i j k->
 b (ao c 3) d e f a h i j k)/\
 (∀ a:Nat->Bool,a 4=false->a 3=true->∀ c d e f g h i j,b a c d e f g h i j->
 RR (sOp (.slice 23 (.const f) (some (.const (.int .i64 1))) none none) 23) j fun e j=>
 b (ao a 4) c d e f g h i j)/\
 (∀ a:Nat->Bool,a 5=false->a 2=true->a 4=true->∀ c d e f g h i j,b a c d e f g h i j->
 RR (bP 27 [(0,g),(1,e)]) j fun d j=>
 b (ao a 5) c d e f g h i j)/\
 (∀ a:Nat->Bool,a 6=false->a 5=true->∀ c d e f g h i j,b a c d e f g h i j->
 RR (aF (.func (.func 28) #[] #[]) [d]) j fun c j=>
 b (ao a 6) c d e f g h i j)/\
 (∀ a:Nat->Bool,a 7=false->a 6=true->a 6=true->a 0=true->a 1=true->a 2=true->a 3=true->a 4=true->a 5=true->a 6=true->∀ d e f g h i j k,b a d e f g h i j k->
 RR (sOp (.store 27 (.const c) (.const d)) 0) k fun _ c=>
 b (ao a 7) d e f g h i j c)/\
 True)/\
 ∀ a:Nat->Bool,a 7=true->a 6=true->a 5=true->a 4=true->a 3=true->a 2=true->a 1=true->a 0=true->∀ d e f g j k l m,b a d e f g j k l m->
 (∃ a:(Nat->Bool)->Value->Value->Value->Value->Value->Value->World->Prop,a (fun _=>false) h i undef undef undef undef { m with drawn:=m.drawn+1 }/\(
 (∀ b:Nat->Bool,b 0=false->∀ d e f g h i j,a b d e f g h i j->
 RR (sOp (.load 27 (.const c)) 27) j fun c i=>
 a (ao b 0) d e f g h c i)/\
 (∀ b:Nat->Bool,b 1=false->b 0=true->∀ c d e f g h i,a b c d e f g h i->
 RR (aF (.func (.func 27) #[] #[]) [h]) i fun g i=>
 a (ao b 1) c d e f g h i)/\
 (∀ b:Nat->Bool,b 2=false->∀ d e f g h i j,a b d e f g h i j->
 RR (sOp (.load 27 (.const c)) 27) j fun c g=>
 a (ao b 2) d e f c h i g)/\
 (∀ b:Nat->Bool,b 3=false->b 2=true->b 1=true->∀ c d e f g h i,a b c d e f g h i->
 RR (aF (.func (.func 11) #[] #[]) [f]) i fun e i=>
 a (ao b 3) c d e f g h i)/\
 (∀ b:Nat->Bool,b 4=false->b 1=true->b 3=true->b 0=true->b 1=true->b 2=true->∀ d e f g h i j,a b d e f g h i j->
 RR (sOp (.store 27 (.const c) (.const h)) 0) j fun _ c=>
 a (ao b 4) d e f g h i c)/\
 (∀ b:Nat->Bool,b 5=false->b 4=true->b 0=true->b 1=true->b 2=true->b 4=true->∀ c d e f g h i,a b c d e f g h i->
 a (ao b 5) c (.bool true) e f g h i)/\
 (∀ b:Nat->Bool,b 6=false->b 3=true->b 5=true->b 0=true->b 1=true->b 2=true->b 3=true->b 4=true->b 5=true->∀ c d e f g h i,a b c d e f g h i->
 a (ao b 6) e d e f g h i)/\
 True)/\
 ∀ b:Nat->Bool,b 6=true->b 5=true->b 4=true->b 3=true->b 2=true->b 1=true->b 0=true->∀ d e f g h i j,a b d e f g h i j->
 (a4 Tryz.prog 27 c j fun a=>R (.returned (.tuple #[a,e,d])) j)))))))))
theorem sC {p0 p1:Value} {w:World} {R:Ending->World->Prop} (h:mY p0 p1 w R):Calls Tryz.prog 18 #[p0,p1] w R:=
  aK (.seq none .leaf (.seq none .leaf (.seq none .leaf (.seq none .leaf (.seq none .leaf (.seq none (.seq none .leaf (.one (.loop [35,9] .leaf))) (.seq none .leaf (.seq none (.seq none .leaf (.one (.loop [53] .leaf))) .leaf)))))))) [p0,p1] bp Tryz.func18 (by kernel_rfl) (by kernel_rfl) h


/- loop.example/prologserver/spec.ClauseValid : function 19 -/
def ly (p0:Value) (w:World) (R:Ending->World->Prop):Prop:=
 RR (sOp (.box 27 (.const p0)) 0) w fun a b=>
 (∃ (c:Value->World->Prop) (d:Value->World->Nat),c (.int .i64 0) b/\
 ∀ b _ _ _ _ _ _ _ _ _ _ _ _ _ _ _ _ _ _ _:Value,∀ e:World,c b e->
 (∃ f:Value->World->Prop,(
 RR (sOp (.fieldAddr 27 (.const a) 1) 0) e fun a c=>
 RR (sOp (.load 23 (.const a)) 23) c fun a c=>
 RR (aE .len #[23] 3 [false] [a]) c fun a c=>
 RR (av .lss 3 false false b a) c fun a c=>
 ai a true (
 RR (av .leq 3 false true b (.int .i64 6)) c fun b c=>
 RR (sOp (.pick (.const a) (.const b) (.const (.bool false))) 4) c fun a b=>
 f a b) (
 RR (sOp (.pick (.const a) (.const undef) (.const (.bool false))) 4) c fun a b=>
 f a b))/\
 ∀ g _ _ _ _ _ _ _ _:Value,∀ h:World,f g h->
 CondV g (
 RR (sOp (.fieldAddr 27 (.const a) 1) 0) h fun a f=>
 RR (sOp (.load 23 (.const a)) 23) f fun a f=>
 RR (sOp (.indexAddr 23 (.const a) (.const b)) 0) f fun a f=>
 RR (sOp (.load 25 (.const a)) 25) f fun a f=>
 RR (aF (.func (.func 46) #[] #[]) [a]) f fun a f=>
 RR (sOp (.unOp .not 4 (.const a)) 4) f fun a f=>
 CondV a (
 R (.returned (.bool false)) f) (
 RR (av .add 3 false true b (.int .i64 1)) f fun a f=>
 c a f/\d a f<d b e)) (
 RR (sOp (.fieldAddr 27 (.const a) 1) 0) h fun b c=>
 RR (sOp (.load 23 (.const b)) 23) c fun b c=>
 RR (aE .len #[23] 3 [false] [b]) c fun b c=>
 RR (av .leq 3 false true b (.int .i64 6)) c fun b c=>
 ((fun d:VW=>ai b true (
 RR (sOp (.fieldAddr 27 (.const a) 0) 0) c fun a c=>
 RR (sOp (.load 25 (.const a)) 25) c fun a c=>
 RR (aF (.func (.func 47) #[] #[]) [a]) c fun a c=>
 RR (sOp (.pick (.const b) (.const a) (.const (.bool false))) 4) c fun a b=>d a b) (
 RR (sOp (.pick (.const b) (.const undef) (.const (.bool false))) 4) c fun a b=>d a b)) fun b c=>
 ai b true (
 RR (sOp (.fieldAddr 27 (.const a) 0) 0) c fun a c=>
 RR (sOp (.load 25 (.const a)) 25) c fun a c=>
 RR (aF (.func (.func 48) #[] #[]) [a]) c fun a c=>
 RR (sOp (.pick (.const b) (.const a) (.const (.bool false))) 4) c fun a b=>
 R (.returned a) b) (
 RR (sOp (.pick (.const b) (.const undef) (.const (.bool false))) 4) c fun a b=>
 R (.returned a) b)))))
theorem o4 {p0:Value} {w:World} {R:Ending->World->Prop} (h:ly p0 w R):Calls Tryz.prog 19 #[p0] w R:=
  aK (.seq none .leaf (.seq none (.seq none .leaf (.one (.loop [3] (.seq none (.seq (some [12]) .leaf .leaf) .leaf)))) .leaf)) [p0] bp Tryz.func19 (by kernel_rfl) (by kernel_rfl) h


/- loop.example/prologserver/spec.l15First : function 20 -/
def pi (p0:Value) (w:World) (R:Ending->World->Prop):Prop:=
 RR (sOp (.box 27 (.const p0)) 0) w fun a b=>
 RR (sOp (.fieldAddr 27 (.const a) 1) 0) b fun b c=>
 RR (sOp (.load 23 (.const b)) 23) c fun b c=>
 RR (aE .len #[23] 3 [false] [b]) c fun b c=>
 RR (av .gtr 3 false true b (.int .i64 0)) c fun b c=>
 ai b true (
 RR (sOp (.fieldAddr 27 (.const a) 1) 0) c fun a c=>
 RR (sOp (.load 23 (.const a)) 23) c fun a c=>
 RR (sOp (.indexAddr 23 (.const a) (.const (.int .i64 0))) 0) c fun a c=>
 RR (sOp (.load 25 (.const a)) 25) c fun a c=>
 RR (aF (.func (.func 48) #[] #[]) [a]) c fun a c=>
 RR (sOp (.pick (.const b) (.const a) (.const (.bool false))) 4) c fun a b=>
 R (.returned a) b) (
 RR (sOp (.pick (.const b) (.const undef) (.const (.bool false))) 4) c fun a b=>
 R (.returned a) b)
theorem ux {p0:Value} {w:World} {R:Ending->World->Prop} (h:pi p0 w R):Calls Tryz.prog 20 #[p0] w R:=
  aK .leaf [p0] bp Tryz.func20 (by kernel_rfl) (by kernel_rfl) h


/- loop.example/prologserver/spec.l15Resolvent : function 21 -/
def ko (p0 p1:Value) (w:World) (R:Ending->World->Prop):Prop:=
 RR (sOp (.box 27 (.const p0)) 0) w fun a b=>
 RR (sOp (.box 27 (.const p1)) 0) b fun b c=>
 RR (sOp (.alloc 27) 0) c fun c d=>
 RR (sOp (.load 27 (.const b)) 27) d fun b d=>
 RR (aF (.func (.func 49) #[] #[]) [b,(.int .i64 26)]) d fun b d=>
 RR (sOp (.alloc 27) 0) d fun d e=>
 RR (sOp (.store 27 (.const d) (.const b)) 0) e fun _ b=>
 RR (av .mul 3 true false (.int .i64 2) (.int .i64 26)) b fun b e=>
 RR (sOp (.makeSlice 23 (.const b) (.const b)) 23) e fun b e=>
 (∃ f:(Nat->Bool)->Value->Value->Value->Value->Value->Value->Value->Value->Value->World->Prop,f (fun _=>false) undef undef undef undef undef undef undef undef undef { e with drawn:=e.drawn+1 }/\(
 (∀ b:Nat->Bool,b 0=false->∀ c d e g h i j k l m,f b c d e g h i j k l m->
 RR (sOp (.fieldAddr 27 (.const a) 1) 0) m fun a l=>
 f (ao b 0) c d e g h i j k a l)/\
 (∀ a:Nat->Bool,a 1=false->a 0=true->∀ b c d e g h i j k l,f a b c d e g h i j k l->
 RR (sOp (.load 23 (.const k)) 23) l fun j l=>
 f (ao a 1) b c d e g h i j k l)/\
 (∀ a:Nat->Bool,a 2=false->a 1=true->∀ b c d e g h i j k l,f a b c d e g h i j k l->
 RR (sOp (.indexAddr 23 (.const j) (.const (.int .i64 0))) 0) l fun i l=>
 f (ao a 2) b c d e g h i j k l)/\
 (∀ a:Nat->Bool,a 3=false->a 2=true->∀ b c d e g h i j k l,f a b c d e g h i j k l->
 RR (sOp (.load 25 (.const i)) 25) l fun h l=>
 f (ao a 3) b c d e g h i j k l)/\
 (∀ a:Nat->Bool,a 4=false->∀ b c e g h i j k l m,f a b c e g h i j k l m->
 RR (sOp (.fieldAddr 27 (.const d) 0) 0) m fun d h=>
 f (ao a 4) b c e g d i j k l h)/\
 (∀ a:Nat->Bool,a 5=false->a 4=true->∀ b c d e g h i j k l,f a b c d e g h i j k l->
 RR (sOp (.load 25 (.const g)) 25) l fun e l=>
 f (ao a 5) b c d e g h i j k l)/\
 (∀ a:Nat->Bool,a 6=false->∀ c d e g h i j k l m,f a c d e g h i j k l m->
 f (ao a 6) c d b g h i j k l m)/\
 (∀ a:Nat->Bool,a 7=false->a 3=true->a 5=true->a 6=true->∀ b c d e g h i j k l,f a b c d e g h i j k l->
 RR (aF (.func (.func 50) #[] #[]) [h,e,d]) l fun c l=>
 f (ao a 7) b c d e g h i j k l)/\
 (∀ a:Nat->Bool,a 8=false->a 7=true->∀ b c d e g h i j k l,f a b c d e g h i j k l->
 RR (sOp (.unOp .not 4 (.const c)) 4) l fun b l=>
 f (ao a 8) b c d e g h i j k l)/\
 True)/\
 ∀ e:Nat->Bool,e 8=true->e 7=true->e 6=true->e 5=true->e 4=true->e 3=true->e 2=true->e 1=true->e 0=true->∀ g h i j k l m n o p,f e g h i j k l m n o p->
 CondV g (
 RR (bP 27 []) p fun a b=>
 RR (sOp (.store 27 (.const c) (.const a)) 0) b fun _ a=>
 (a4 Tryz.prog 27 c a fun b=>R (.returned (.tuple #[b,(.bool false),(.bool true)])) a)) (
 (∃ e:(Nat->Bool)->Value->Value->Value->Value->Value->Value->Value->Value->Value->Value->Value->World->Prop,e (fun _=>false) undef undef undef undef undef undef undef undef undef undef undef { p with drawn:=p.drawn+1 }/\(
 (∀ b:Nat->Bool,b 0=false->∀ c d f g h i j k l m n o,e b c d f g h i j k l m n o->
 RR (sOp (.fieldAddr 27 (.const a) 0) 0) o fun a n=>
 e (ao b 0) c d f g h i j k l m a n)/\
 (∀ a:Nat->Bool,a 1=false->a 0=true->∀ b c d f g h i j k l m n,e a b c d f g h i j k l m n->
 RR (sOp (.load 25 (.const m)) 25) n fun l n=>
 e (ao a 1) b c d f g h i j k l m n)/\
 (∀ a:Nat->Bool,a 2=false->a 1=true->∀ b c d f g h i j k l m n,e a b c d f g h i j k l m n->
 RR (aQ 23 1 [(0,l)]) n fun k n=>
 e (ao a 2) b c d f g h i j k l m n)/\
 (∀ a:Nat->Bool,a 3=false->∀ b c f g h i j k l m n o,e a b c f g h i j k l m n o->
 RR (sOp (.fieldAddr 27 (.const d) 1) 0) o fun d k=>
 e (ao a 3) b c f g h i j d l m n k)/\
 (∀ a:Nat->Bool,a 4=false->a 3=true->∀ b c d f g h i j k l m n,e a b c d f g h i j k l m n->
 RR (sOp (.load 23 (.const j)) 23) n fun i n=>
 e (ao a 4) b c d f g h i j k l m n)/\
 (∀ a:Nat->Bool,a 5=false->a 2=true->a 4=true->∀ b c d f g h i j k l m n,e a b c d f g h i j k l m n->
 RR (aE .append #[23,23] 23 [false,false] [k,i]) n fun h n=>
 e (ao a 5) b c d f g h i j k l m n)/\
 (∀ b:Nat->Bool,b 6=false->∀ c d f g h i j k l m n o,e b c d f g h i j k l m n o->
 RR (sOp (.fieldAddr 27 (.const a) 1) 0) o fun a h=>
 e (ao b 6) c d f g a i j k l m n h)/\
 (∀ a:Nat->Bool,a 7=false->a 6=true->∀ b c d f g h i j k l m n,e a b c d f g h i j k l m n->
 RR (sOp (.load 23 (.const g)) 23) n fun f n=>
 e (ao a 7) b c d f g h i j k l m n)/\
 (∀ a:Nat->Bool,a 8=false->a 7=true->∀ b c d f g h i j k l m n,e a b c d f g h i j k l m n->
 RR (sOp (.slice 23 (.const f) (some (.const (.int .i64 1))) none none) 23) n fun d n=>
 e (ao a 8) b c d f g h i j k l m n)/\
 (∀ a:Nat->Bool,a 9=false->a 5=true->a 8=true->a 5=true->∀ b c d f g h i j k l m n,e a b c d f g h i j k l m n->
 RR (aE .append #[23,23] 23 [false,false] [h,d]) n fun c n=>
 e (ao a 9) b c d f g h i j k l m n)/\
 (∀ a:Nat->Bool,a 10=false->a 9=true->a 9=true->a 0=true->a 1=true->a 2=true->a 3=true->a 4=true->a 5=true->a 6=true->a 7=true->a 8=true->a 9=true->∀ b c d f g h i j k l m n,e a b c d f g h i j k l m n->
 e (ao a 10) c c d f g h i j k l m n)/\
 True)/\
 ∀ a:Nat->Bool,a 10=true->a 9=true->a 8=true->a 7=true->a 6=true->a 5=true->a 4=true->a 3=true->a 2=true->a 1=true->a 0=true->∀ d f g h i j k l m n o p,e a d f g h i j k l m n o p->
 RR (aQ 23 0 []) p fun a e=>
 (∃ (f:Value->Value->World->Prop) (g:Value->Value->World->Nat),f (.int .i64 0) a e/\
 ∀ a _ _ e _ _ _ _ h i _ _ _ _ _ _ _ _ _ _ _ _ _ _ _ _ _ _:Value,∀ j:World,f a e j->
 RR (aE .len #[23] 3 [false] [d]) j fun k l=>
 RR (av .lss 3 false false a k) l fun k l=>
 CondV k (
 RR (sOp (.indexAddr 23 (.const d) (.const a)) 0) l fun d h=>
 RR (sOp (.load 25 (.const d)) 25) h fun d h=>
 RR (aF (.func (.func 51) #[] #[]) [d,b]) h fun b d=>
 RR (sOp (.extract (.const b) 0) 25) d fun d h=>
 RR (sOp (.extract (.const b) 1) 4) h fun b h=>
 RR (sOp (.alloc 25) 0) h fun h i=>
 RR (sOp (.store 25 (.const h) (.const d)) 0) i fun _ d=>
 RR (sOp (.unOp .not 4 (.const b)) 4) d fun b d=>
 CondV b (
 RR (bP 27 []) d fun a b=>
 RR (sOp (.store 27 (.const c) (.const a)) 0) b fun _ a=>
 (a4 Tryz.prog 27 c a fun b=>R (.returned (.tuple #[b,(.bool true),(.bool false)])) a)) (
 RR (sOp (.load 25 (.const h)) 25) d fun b c=>
 RR (aQ 23 1 [(0,b)]) c fun b c=>
 RR (aE .append #[23,23] 23 [false,false] [e,b]) c fun b c=>
 RR (av .add 3 false true a (.int .i64 1)) c fun c d=>
 f c b d/\g c b d<g a e j)) (
 RR (aF (.func (.func 52) #[] #[]) [e]) l fun a b=>
 (∃ d:(Nat->Bool)->Value->Value->Value->Value->Value->Value->Value->World->Prop,d (fun _=>false) undef undef undef undef undef undef undef { b with drawn:=b.drawn+1 }/\(
 (∀ b:Nat->Bool,b 0=false->∀ c e f g h i j k,d b c e f g h i j k->
 d (ao b 0) c e f g h i a k)/\
 (∀ a:Nat->Bool,a 1=false->a 0=true->∀ b c e f g h i j,d a b c e f g h i j->
 RR (sOp (.indexAddr 23 (.const i) (.const (.int .i64 0))) 0) j fun h j=>
 d (ao a 1) b c e f g h i j)/\
 (∀ a:Nat->Bool,a 2=false->a 1=true->∀ b c e f g h i j,d a b c e f g h i j->
 RR (sOp (.load 25 (.const h)) 25) j fun g j=>
 d (ao a 2) b c e f g h i j)/\
 (∀ b:Nat->Bool,b 3=false->∀ c e f g h i j k,d b c e f g h i j k->
 d (ao b 3) c e f a h i j k)/\
 (∀ a:Nat->Bool,a 4=false->a 3=true->∀ b c e f g h i j,d a b c e f g h i j->
 RR (sOp (.slice 23 (.const f) (some (.const (.int .i64 1))) none none) 23) j fun e j=>
 d (ao a 4) b c e f g h i j)/\
 (∀ a:Nat->Bool,a 5=false->a 2=true->a 4=true->∀ b c e f g h i j,d a b c e f g h i j->
 RR (bP 27 [(0,g),(1,e)]) j fun c j=>
 d (ao a 5) b c e f g h i j)/\
 (∀ a:Nat->Bool,a 6=false->∀ b c e f g h i j,d a b c e f g h i j->
 RR (sOp (.alloc 27) 0) j fun b j=>
 d (ao a 6) b c e f g h i j)/\
 (∀ a:Nat->Bool,a 7=false->a 6=true->a 5=true->a 0=true->a 1=true->a 2=true->a 3=true->a 4=true->a 5=true->a 6=true->∀ b c e f g h i j,d a b c e f g h i j->
 RR (sOp (.store 27 (.const b) (.const c)) 0) j fun _ j=>
 d (ao a 7) b c e f g h i j)/\
 True)/\
 ∀ a:Nat->Bool,a 7=true->a 6=true->a 5=true->a 4=true->a 3=true->a 2=true->a 1=true->a 0=true->∀ b e f g j k l m,d a b e f g j k l m->
 (∃ a:(Nat->Bool)->Value->Value->Value->Value->Value->World->Prop,a (fun _=>false) h i undef undef undef { m with drawn:=m.drawn+1 }/\(
 (∀ c:Nat->Bool,c 0=false->∀ d e f g h i,a c d e f g h i->
 RR (sOp (.load 27 (.const b)) 27) i fun b h=>
 a (ao c 0) d e f g b h)/\
 (∀ c:Nat->Bool,c 1=false->∀ d e f g h i,a c d e f g h i->
 RR (sOp (.load 27 (.const b)) 27) i fun b g=>
 a (ao c 1) d e f b h g)/\
 (∀ b:Nat->Bool,b 2=false->b 1=true->∀ c d e f g h,a b c d e f g h->
 RR (aF (.func (.func 19) #[] #[]) [f]) h fun e h=>
 a (ao b 2) c d e f g h)/\
 (∀ b:Nat->Bool,b 3=false->b 0=true->b 2=true->b 0=true->∀ d e f g h i,a b d e f g h i->
 RR (sOp (.store 27 (.const c) (.const h)) 0) i fun _ c=>
 a (ao b 3) d e f g h c)/\
 (∀ b:Nat->Bool,b 4=false->b 3=true->b 0=true->b 3=true->∀ c d e f g h,a b c d e f g h->
 a (ao b 4) c (.bool true) e f g h)/\
 (∀ b:Nat->Bool,b 5=false->b 2=true->b 4=true->b 0=true->b 1=true->b 2=true->b 3=true->b 4=true->∀ c d e f g h,a b c d e f g h->
 a (ao b 5) e d e f g h)/\
 True)/\
 ∀ b:Nat->Bool,b 5=true->b 4=true->b 3=true->b 2=true->b 1=true->b 0=true->∀ d e f g h i,a b d e f g h i->
 (a4 Tryz.prog 27 c i fun a=>R (.returned (.tuple #[a,e,d])) i))))))))
theorem nX {p0 p1:Value} {w:World} {R:Ending->World->Prop} (h:ko p0 p1 w R):Calls Tryz.prog 21 #[p0,p1] w R:=
  aK (.seq none .leaf (.seq none .leaf (.seq none .leaf (.seq none .leaf (.seq none .leaf (.seq none .leaf (.seq none .leaf (.seq none (.seq none .leaf (.one (.loop [12,11] .leaf))) .leaf)))))))) [p0,p1] bp Tryz.func21 (by kernel_rfl) (by kernel_rfl) h


/- loop.example/prologserver/spec.l4Copy : function 22 -/
def mW (p0:Value) (w:World) (R:Ending->World->Prop):Prop:=
 RR (sOp (.box 27 (.const p0)) 0) w fun a b=>
 RR (sOp (.alloc 27) 0) b fun b c=>
 RR (sOp (.fieldAddr 27 (.const a) 0) 0) c fun c d=>
 RR (sOp (.load 25 (.const c)) 25) d fun c d=>
 RR (aF (.func (.func 53) #[] #[]) [c]) d fun c d=>
 RR (bP 27 [(0,c)]) d fun c d=>
 RR (sOp (.alloc 27) 0) d fun d e=>
 RR (sOp (.store 27 (.const d) (.const c)) 0) e fun _ c=>
 (∃ (e:Value->World->Prop) (f:Value->World->Nat),e (.int .i64 0) c/\
 ∀ c _ _ g h i j k l m n o p q _ _ _ _ _:Value,∀ r:World,e c r->
 RR (sOp (.fieldAddr 27 (.const a) 1) 0) r fun s t=>
 RR (sOp (.load 23 (.const s)) 23) t fun s t=>
 RR (aE .len #[23] 3 [false] [s]) t fun s t=>
 RR (av .lss 3 false false c s) t fun s t=>
 CondV s (
 (∃ b:(Nat->Bool)->Value->Value->Value->Value->Value->Value->Value->Value->Value->Value->Value->World->Prop,b (fun _=>false) g h i j k l m n o p q { t with drawn:=t.drawn+1 }/\(
 (∀ a:Nat->Bool,a 0=false->∀ c e f g h i j k l m n o,b a c e f g h i j k l m n o->
 RR (sOp (.fieldAddr 27 (.const d) 1) 0) o fun d n=>
 b (ao a 0) c e f g h i j k l m d n)/\
 (∀ a:Nat->Bool,a 1=false->a 0=true->∀ c d e f g h i j k l m n,b a c d e f g h i j k l m n->
 RR (sOp (.load 23 (.const m)) 23) n fun l n=>
 b (ao a 1) c d e f g h i j k l m n)/\
 (∀ c:Nat->Bool,c 2=false->∀ d e f g h i j k l m n o,b c d e f g h i j k l m n o->
 RR (sOp (.fieldAddr 27 (.const a) 1) 0) o fun a l=>
 b (ao c 2) d e f g h i j k a m n l)/\
 (∀ a:Nat->Bool,a 3=false->a 2=true->∀ c d e f g h i j k l m n,b a c d e f g h i j k l m n->
 RR (sOp (.load 23 (.const k)) 23) n fun j n=>
 b (ao a 3) c d e f g h i j k l m n)/\
 (∀ a:Nat->Bool,a 4=false->∀ d e f g h i j k l m n o,b a d e f g h i j k l m n o->
 b (ao a 4) d e f g h i c k l m n o)/\
 (∀ a:Nat->Bool,a 5=false->a 3=true->a 4=true->∀ c d e f g h i j k l m n,b a c d e f g h i j k l m n->
 RR (sOp (.indexAddr 23 (.const j) (.const i)) 0) n fun h n=>
 b (ao a 5) c d e f g h i j k l m n)/\
 (∀ a:Nat->Bool,a 6=false->a 5=true->∀ c d e f g h i j k l m n,b a c d e f g h i j k l m n->
 RR (sOp (.load 25 (.const h)) 25) n fun g n=>
 b (ao a 6) c d e f g h i j k l m n)/\
 (∀ a:Nat->Bool,a 7=false->a 6=true->∀ c d e f g h i j k l m n,b a c d e f g h i j k l m n->
 RR (aF (.func (.func 53) #[] #[]) [g]) n fun f n=>
 b (ao a 7) c d e f g h i j k l m n)/\
 (∀ a:Nat->Bool,a 8=false->a 7=true->∀ c d e f g h i j k l m n,b a c d e f g h i j k l m n->
 RR (aQ 23 1 [(0,f)]) n fun e n=>
 b (ao a 8) c d e f g h i j k l m n)/\
 (∀ a:Nat->Bool,a 9=false->a 1=true->a 8=true->a 7=true->∀ c d e f g h i j k l m n,b a c d e f g h i j k l m n->
 RR (aE .append #[23,23] 23 [false,false] [l,e]) n fun d n=>
 b (ao a 9) c d e f g h i j k l m n)/\
 (∀ a:Nat->Bool,a 10=false->a 0=true->a 1=true->a 2=true->a 3=true->a 4=true->a 5=true->a 6=true->a 7=true->a 8=true->a 9=true->∀ c e f g h i j k l m n o,b a c e f g h i j k l m n o->
 RR (sOp (.fieldAddr 27 (.const d) 1) 0) o fun c d=>
 b (ao a 10) c e f g h i j k l m n d)/\
 (∀ a:Nat->Bool,a 11=false->a 10=true->a 9=true->a 9=true->a 0=true->a 1=true->a 2=true->a 3=true->a 4=true->a 5=true->a 6=true->a 7=true->a 8=true->a 9=true->∀ c d e f g h i j k l m n,b a c d e f g h i j k l m n->
 RR (sOp (.store 23 (.const c) (.const d)) 0) n fun _ n=>
 b (ao a 11) c d e f g h i j k l m n)/\
 True)/\
 ∀ a:Nat->Bool,a 11=true->a 10=true->a 9=true->a 8=true->a 7=true->a 6=true->a 5=true->a 4=true->a 3=true->a 2=true->a 1=true->a 0=true->∀ d g h i j k l m n o p q,b a d g h i j k l m n o p q->
 RR (av .add 3 false true c (.int .i64 1)) q fun a b=>
 e a b/\f a b<f c r)) (
 RR (sOp (.load 27 (.const d)) 27) t fun a c=>
 RR (sOp (.store 27 (.const b) (.const a)) 0) c fun _ a=>
 (a4 Tryz.prog 27 b a fun b=>R (.returned b) a)))
theorem nO {p0:Value} {w:World} {R:Ending->World->Prop} (h:mW p0 w R):Calls Tryz.prog 22 #[p0] w R:=
  aK (.seq none .leaf (.seq none .leaf (.seq none (.seq none .leaf (.one (.loop [4] .leaf))) .leaf))) [p0] bp Tryz.func22 (by kernel_rfl) (by kernel_rfl) h


/- loop.example/prologserver/impl.TermSame : function 23 -/
def pA (p0 p1:Value) (w:World) (R:Ending->World->Prop):Prop:=
 RR (sOp (.box 25 (.const p0)) 0) w fun a b=>
 RR (sOp (.box 25 (.const p1)) 0) b fun b c=>
 RR (sOp (.fieldAddr 25 (.const a) 0) 0) c fun c d=>
 RR (sOp (.load 3 (.const c)) 3) d fun c d=>
 RR (sOp (.fieldAddr 25 (.const b) 0) 0) d fun d e=>
 RR (sOp (.load 3 (.const d)) 3) e fun d e=>
 RR (av .eql 3 false false c d) e fun c d=>
 ((fun e:VW=>ai c true (
 RR (sOp (.fieldAddr 25 (.const a) 1) 0) d fun a d=>
 RR (sOp (.load 3 (.const a)) 3) d fun a d=>
 RR (sOp (.fieldAddr 25 (.const b) 1) 0) d fun b d=>
 RR (sOp (.load 3 (.const b)) 3) d fun b d=>
 RR (av .eql 3 false false a b) d fun a b=>
 RR (sOp (.pick (.const c) (.const a) (.const (.bool false))) 4) b fun a b=>e a b) (
 RR (sOp (.pick (.const c) (.const undef) (.const (.bool false))) 4) d fun a b=>e a b)) fun c d=>
 ((fun e:VW=>ai c true (
 RR (sOp (.fieldAddr 25 (.const a) 2) 0) d fun a d=>
 RR (sOp (.load 9 (.const a)) 9) d fun a d=>
 RR (sOp (.fieldAddr 25 (.const b) 2) 0) d fun b d=>
 RR (sOp (.load 9 (.const b)) 9) d fun b d=>
 RR (av .eql 9 false false a b) d fun a b=>
 RR (sOp (.pick (.const c) (.const a) (.const (.bool false))) 4) b fun a b=>e a b) (
 RR (sOp (.pick (.const c) (.const undef) (.const (.bool false))) 4) d fun a b=>e a b)) fun c d=>
 ai c true (
 RR (sOp (.fieldAddr 25 (.const a) 3) 0) d fun a d=>
 RR (sOp (.load 23 (.const a)) 23) d fun a d=>
 RR (sOp (.fieldAddr 25 (.const b) 3) 0) d fun b d=>
 RR (sOp (.load 23 (.const b)) 23) d fun b d=>
 RR (aF (.func (.func 24) #[] #[]) [a,b,(.func (.func 23) #[] #[])]) d fun a b=>
 RR (sOp (.pick (.const c) (.const a) (.const (.bool false))) 4) b fun a b=>
 R (.returned a) b) (
 RR (sOp (.pick (.const c) (.const undef) (.const (.bool false))) 4) d fun a b=>
 R (.returned a) b)))
theorem tG {p0 p1:Value} {w:World} {R:Ending->World->Prop} (h:pA p0 p1 w R):Calls Tryz.prog 23 #[p0,p1] w R:=
  aK .leaf [p0,p1] bp Tryz.func23 (by kernel_rfl) (by kernel_rfl) h


/- slices.EqualFunc[[]loop.example/prologserver/impl.Term,[]loop.example/prologserver/impl.Term,loop.example/prologserver/impl.Term,loop.example/prologserver/impl.Term] : function 24 -/
def jn (p0 p1 p2:Value) (w:World) (R:Ending->World->Prop):Prop:=
 RR (aE .len #[23] 3 [false] [p0]) w fun a b=>
 RR (aE .len #[23] 3 [false] [p1]) b fun b c=>
 RR (av .neq 3 false false a b) c fun a b=>
 CondV a (
 R (.returned (.bool false)) b) (
 RR (aE .len #[23] 3 [false] [p0]) b fun a b=>
 (∃ (c:Value->World->Prop) (d:Value->World->Nat),c (.int .i64 0) b/\
 ∀ b _ _ _ _ _ _ _ _ _ _ _ _ _ _ _ _ _ _:Value,∀ e:World,c b e->
 RR (av .lss 3 false false b a) e fun a f=>
 CondV a (
 RR (sOp (.indexAddr 23 (.const p0) (.const b)) 0) f fun a f=>
 RR (sOp (.load 25 (.const a)) 25) f fun a f=>
 RR (sOp (.alloc 25) 0) f fun f g=>
 RR (sOp (.store 25 (.const f) (.const a)) 0) g fun _ a=>
 RR (sOp (.indexAddr 23 (.const p1) (.const b)) 0) a fun a g=>
 RR (sOp (.load 25 (.const a)) 25) g fun a g=>
 RR (sOp (.alloc 25) 0) g fun g h=>
 RR (sOp (.store 25 (.const g) (.const a)) 0) h fun _ a=>
 RR (sOp (.load 25 (.const f)) 25) a fun a f=>
 RR (sOp (.load 25 (.const g)) 25) f fun f g=>
 RR (aF p2 [a,f]) g fun a f=>
 RR (sOp (.unOp .not 4 (.const a)) 4) f fun a f=>
 CondV a (
 R (.returned (.bool false)) f) (
 RR (av .add 3 false true b (.int .i64 1)) f fun a f=>
 c a f/\d a f<d b e)) (
 R (.returned (.bool true)) f)))
theorem md {p0 p1 p2:Value} {w:World} {R:Ending->World->Prop} (h:jn p0 p1 p2 w R):Calls Tryz.prog 24 #[p0,p1,p2] w R:=
  aK (.seq none .leaf (.seq none .leaf (.seq none (.seq none .leaf (.one (.loop [17] .leaf))) .leaf))) [p0,p1,p2] bp Tryz.func24 (by kernel_rfl) (by kernel_rfl) h


/- loop.example/prologserver/impl.TermValid : function 25 -/
def om (p0:Value) (w:World) (R:Ending->World->Prop):Prop:=
 RR (sOp (.box 25 (.const p0)) 0) w fun a b=>
 RR (sOp (.alloc 3) 0) b fun b c=>
 RR (sOp (.store 3 (.const b) (.const (.int .i64 0))) 0) c fun _ c=>
 RR (sOp (.load 25 (.const a)) 25) c fun a c=>
 RR (aF (.func (.func 54) #[] #[]) [a,(.int .i64 1),b]) c fun a b=>
 R (.returned a) b
theorem sx {p0:Value} {w:World} {R:Ending->World->Prop} (h:om p0 w R):Calls Tryz.prog 25 #[p0] w R:=
  aK .leaf [p0] bp Tryz.func25 (by kernel_rfl) (by kernel_rfl) h


/- loop.example/prologserver/impl.instance : function 26 -/
def pw (p0 p1 p2:Value) (w:World) (R:Ending->World->Prop):Prop:=
 RR (sOp (.box 25 (.const p0)) 0) w fun a b=>
 RR (sOp (.box 25 (.const p1)) 0) b fun b c=>
 RR (sOp (.fieldAddr 25 (.const b) 0) 0) c fun c d=>
 RR (sOp (.load 3 (.const c)) 3) d fun c d=>
 RR (av .eql 3 false true c (.int .i64 1)) d fun c d=>
 CondV c (
 RR (sOp (.fieldAddr 25 (.const b) 1) 0) d fun c d=>
 RR (sOp (.load 3 (.const c)) 3) d fun c d=>
 RR (sOp (.lookup 51 (.const p2) (.const c) true) 69) d fun c d=>
 RR (sOp (.extract (.const c) 0) 25) d fun d e=>
 RR (sOp (.extract (.const c) 1) 4) e fun c e=>
 RR (sOp (.alloc 25) 0) e fun e f=>
 RR (sOp (.store 25 (.const e) (.const d)) 0) f fun _ d=>
 RR (sOp (.unOp .not 4 (.const c)) 4) d fun c d=>
 CondV c (
 RR (sOp (.fieldAddr 25 (.const b) 1) 0) d fun b c=>
 RR (sOp (.load 3 (.const b)) 3) c fun b c=>
 RR (sOp (.load 25 (.const a)) 25) c fun a c=>
 RR (sOp (.mapUpdate 51 (.const p2) (.const b) (.const a)) 0) c fun _ a=>
 R (.returned (.bool true)) a) (
 RR (sOp (.load 25 (.const e)) 25) d fun b c=>
 RR (sOp (.load 25 (.const a)) 25) c fun a c=>
 RR (aF (.func (.func 23) #[] #[]) [b,a]) c fun a b=>
 R (.returned a) b)) (
 (∃ c:Value->World->Prop,(
 RR (sOp (.fieldAddr 25 (.const a) 0) 0) d fun d e=>
 RR (sOp (.load 3 (.const d)) 3) e fun d e=>
 RR (sOp (.fieldAddr 25 (.const b) 0) 0) e fun e f=>
 RR (sOp (.load 3 (.const e)) 3) f fun e f=>
 RR (av .neq 3 false false d e) f fun d e=>
 ((fun c:VW=>ai d false (
 RR (sOp (.fieldAddr 25 (.const a) 1) 0) e fun a e=>
 RR (sOp (.load 3 (.const a)) 3) e fun a e=>
 RR (sOp (.fieldAddr 25 (.const b) 1) 0) e fun b e=>
 RR (sOp (.load 3 (.const b)) 3) e fun b e=>
 RR (av .neq 3 false false a b) e fun a b=>
 RR (sOp (.pick (.const d) (.const (.bool true)) (.const a)) 4) b fun a b=>c a b) (
 RR (sOp (.pick (.const d) (.const (.bool true)) (.const undef)) 4) e fun a b=>c a b)) fun d e=>
 ((fun c:VW=>ai d false (
 RR (sOp (.fieldAddr 25 (.const a) 2) 0) e fun a e=>
 RR (sOp (.load 9 (.const a)) 9) e fun a e=>
 RR (sOp (.fieldAddr 25 (.const b) 2) 0) e fun b e=>
 RR (sOp (.load 9 (.const b)) 9) e fun b e=>
 RR (av .neq 9 false false a b) e fun a b=>
 RR (sOp (.pick (.const d) (.const (.bool true)) (.const a)) 4) b fun a b=>c a b) (
 RR (sOp (.pick (.const d) (.const (.bool true)) (.const undef)) 4) e fun a b=>c a b)) fun d e=>
 ai d false (
 RR (sOp (.fieldAddr 25 (.const a) 3) 0) e fun a e=>
 RR (sOp (.load 23 (.const a)) 23) e fun a e=>
 RR (aE .len #[23] 3 [false] [a]) e fun a e=>
 RR (sOp (.fieldAddr 25 (.const b) 3) 0) e fun b e=>
 RR (sOp (.load 23 (.const b)) 23) e fun b e=>
 RR (aE .len #[23] 3 [false] [b]) e fun b e=>
 RR (av .neq 3 false false a b) e fun a b=>
 RR (sOp (.pick (.const d) (.const (.bool true)) (.const a)) 4) b fun a b=>
 c a b) (
 RR (sOp (.pick (.const d) (.const (.bool true)) (.const undef)) 4) e fun a b=>
 c a b))))/\
 ∀ d _ _ _ _ _ _ _ _ _ _ _ _ _ _ _ _ _ _ _ _ _ _ _ _ _ _ _:Value,∀ e:World,c d e->
 CondV d (
 R (.returned (.bool false)) e) (
 RR (sOp (.fieldAddr 25 (.const b) 3) 0) e fun c d=>
 RR (sOp (.load 23 (.const c)) 23) d fun c d=>
 RR (aE .len #[23] 3 [false] [c]) d fun c d=>
 (∃ (e:Value->World->Prop) (f:Value->World->Nat),e (.int .i64 0) d/\
 ∀ d _ _ g h i j k l m n o p q r s _ _ _:Value,∀ t:World,e d t->
 RR (av .lss 3 false false d c) t fun c u=>
 CondV c (
 (∃ c:(Nat->Bool)->Value->Value->Value->Value->Value->Value->Value->Value->Value->Value->Value->Value->Value->World->Prop,c (fun _=>false) g h i j k l m n o p q r s { u with drawn:=u.drawn+1 }/\(
 (∀ b:Nat->Bool,b 0=false->∀ d e f g h i j k l m n o p q,c b d e f g h i j k l m n o p q->
 RR (sOp (.fieldAddr 25 (.const a) 3) 0) q fun a p=>
 c (ao b 0) d e f g h i j k l m n o a p)/\
 (∀ a:Nat->Bool,a 1=false->a 0=true->∀ b d e f g h i j k l m n o p,c a b d e f g h i j k l m n o p->
 RR (sOp (.load 23 (.const o)) 23) p fun n p=>
 c (ao a 1) b d e f g h i j k l m n o p)/\
 (∀ a:Nat->Bool,a 2=false->∀ b e f g h i j k l m n o p q,c a b e f g h i j k l m n o p q->
 c (ao a 2) b e f g h i j k l m d o p q)/\
 (∀ a:Nat->Bool,a 3=false->a 1=true->a 2=true->∀ b d e f g h i j k l m n o p,c a b d e f g h i j k l m n o p->
 RR (sOp (.indexAddr 23 (.const n) (.const m)) 0) p fun l p=>
 c (ao a 3) b d e f g h i j k l m n o p)/\
 (∀ a:Nat->Bool,a 4=false->a 3=true->∀ b d e f g h i j k l m n o p,c a b d e f g h i j k l m n o p->
 RR (sOp (.load 25 (.const l)) 25) p fun k p=>
 c (ao a 4) b d e f g h i j k l m n o p)/\
 (∀ a:Nat->Bool,a 5=false->∀ d e f g h i j k l m n o p q,c a d e f g h i j k l m n o p q->
 RR (sOp (.fieldAddr 25 (.const b) 3) 0) q fun b k=>
 c (ao a 5) d e f g h i j b l m n o p k)/\
 (∀ a:Nat->Bool,a 6=false->a 5=true->∀ b d e f g h i j k l m n o p,c a b d e f g h i j k l m n o p->
 RR (sOp (.load 23 (.const j)) 23) p fun i p=>
 c (ao a 6) b d e f g h i j k l m n o p)/\
 (∀ a:Nat->Bool,a 7=false->∀ b e f g h i j k l m n o p q,c a b e f g h i j k l m n o p q->
 c (ao a 7) b e f g h d j k l m n o p q)/\
 (∀ a:Nat->Bool,a 8=false->a 6=true->a 7=true->∀ b d e f g h i j k l m n o p,c a b d e f g h i j k l m n o p->
 RR (sOp (.indexAddr 23 (.const i) (.const h)) 0) p fun g p=>
 c (ao a 8) b d e f g h i j k l m n o p)/\
 (∀ a:Nat->Bool,a 9=false->a 8=true->∀ b d e f g h i j k l m n o p,c a b d e f g h i j k l m n o p->
 RR (sOp (.load 25 (.const g)) 25) p fun f p=>
 c (ao a 9) b d e f g h i j k l m n o p)/\
 (∀ a:Nat->Bool,a 10=false->∀ b d e f g h i j k l m n o p,c a b d e f g h i j k l m n o p->
 c (ao a 10) b d p2 f g h i j k l m n o p)/\
 (∀ a:Nat->Bool,a 11=false->a 4=true->a 9=true->a 10=true->∀ b d e f g h i j k l m n o p,c a b d e f g h i j k l m n o p->
 RR (aF (.func (.func 26) #[] #[]) [k,f,e]) p fun d p=>
 c (ao a 11) b d e f g h i j k l m n o p)/\
 (∀ a:Nat->Bool,a 12=false->a 11=true->∀ b d e f g h i j k l m n o p,c a b d e f g h i j k l m n o p->
 RR (sOp (.unOp .not 4 (.const d)) 4) p fun b p=>
 c (ao a 12) b d e f g h i j k l m n o p)/\
 True)/\
 ∀ a:Nat->Bool,a 12=true->a 11=true->a 10=true->a 9=true->a 8=true->a 7=true->a 6=true->a 5=true->a 4=true->a 3=true->a 2=true->a 1=true->a 0=true->∀ b g h i j k l m n o p q r s,c a b g h i j k l m n o p q r s->
 CondV b (
 R (.returned (.bool false)) s) (
 RR (av .add 3 false true d (.int .i64 1)) s fun a b=>
 e a b/\f a b<f d t))) (
 R (.returned (.bool true)) u)))))
theorem um {p0 p1 p2:Value} {w:World} {R:Ending->World->Prop} (h:pw p0 p1 p2 w R):Calls Tryz.prog 26 #[p0,p1,p2] w R:=
  aK (.seq none .leaf (.seq none .leaf (.seq none (.seq (some [56]) .leaf .leaf) (.seq none (.seq none .leaf (.one (.loop [60] .leaf))) .leaf)))) [p0,p1,p2] bp Tryz.func26 (by kernel_rfl) (by kernel_rfl) h


/- loop.example/prologserver/impl.ownClause : function 27 -/
def nt (p0:Value) (w:World) (R:Ending->World->Prop):Prop:=
 RR (sOp (.box 27 (.const p0)) 0) w fun a b=>
 RR (sOp (.alloc 27) 0) b fun b c=>
 (∃ d:(Nat->Bool)->Value->Value->Value->Value->Value->Value->Value->World->Prop,d (fun _=>false) undef undef undef undef undef undef undef { c with drawn:=c.drawn+1 }/\(
 (∀ b:Nat->Bool,b 0=false->∀ c e f g h i j k,d b c e f g h i j k->
 RR (sOp (.fieldAddr 27 (.const a) 0) 0) k fun a j=>
 d (ao b 0) c e f g h i a j)/\
 (∀ a:Nat->Bool,a 1=false->a 0=true->∀ b c e f g h i j,d a b c e f g h i j->
 RR (sOp (.load 25 (.const i)) 25) j fun h j=>
 d (ao a 1) b c e f g h i j)/\
 (∀ a:Nat->Bool,a 2=false->a 1=true->∀ b c e f g h i j,d a b c e f g h i j->
 RR (aF (.func (.func 55) #[] #[]) [h]) j fun g j=>
 d (ao a 2) b c e f g h i j)/\
 (∀ b:Nat->Bool,b 3=false->∀ c e f g h i j k,d b c e f g h i j k->
 RR (sOp (.fieldAddr 27 (.const a) 1) 0) k fun a g=>
 d (ao b 3) c e f a h i j g)/\
 (∀ a:Nat->Bool,a 4=false->a 3=true->∀ b c e f g h i j,d a b c e f g h i j->
 RR (sOp (.load 23 (.const f)) 23) j fun e j=>
 d (ao a 4) b c e f g h i j)/\
 (∀ a:Nat->Bool,a 5=false->a 4=true->a 2=true->∀ b c e f g h i j,d a b c e f g h i j->
 RR (aF (.func (.func 56) #[] #[]) [e]) j fun c j=>
 d (ao a 5) b c e f g h i j)/\
 (∀ a:Nat->Bool,a 6=false->a 2=true->a 5=true->∀ b c e f g h i j,d a b c e f g h i j->
 RR (bP 27 [(0,g),(1,c)]) j fun b j=>
 d (ao a 6) b c e f g h i j)/\
 (∀ a:Nat->Bool,a 7=false->a 6=true->a 5=true->a 0=true->a 1=true->a 2=true->a 3=true->a 4=true->a 5=true->a 6=true->∀ c e f g h i j k,d a c e f g h i j k->
 RR (sOp (.store 27 (.const b) (.const c)) 0) k fun _ b=>
 d (ao a 7) c e f g h i j b)/\
 True)/\
 ∀ a:Nat->Bool,a 7=true->a 6=true->a 5=true->a 4=true->a 3=true->a 2=true->a 1=true->a 0=true->∀ c e f g h i j k,d a c e f g h i j k->
 (a4 Tryz.prog 27 b k fun a=>R (.returned a) k))
theorem sO {p0:Value} {w:World} {R:Ending->World->Prop} (h:nt p0 w R):Calls Tryz.prog 27 #[p0] w R:=
  aK .leaf [p0] bp Tryz.func27 (by kernel_rfl) (by kernel_rfl) h


/- loop.example/prologserver/impl.numbered : function 28 -/
def pc (p0:Value) (w:World) (R:Ending->World->Prop):Prop:=
 RR (sOp (.box 27 (.const p0)) 0) w fun a b=>
 RR (sOp (.alloc 27) 0) b fun b c=>
 RR (sOp (.fieldAddr 27 (.const a) 0) 0) c fun c d=>
 RR (sOp (.load 25 (.const c)) 25) d fun c d=>
 RR (aQ 23 1 [(0,c)]) d fun c d=>
 RR (sOp (.fieldAddr 27 (.const a) 1) 0) d fun a d=>
 RR (sOp (.load 23 (.const a)) 23) d fun a d=>
 RR (aE .append #[23,23] 23 [false,false] [c,a]) d fun a c=>
 RR (aF (.func (.func 57) #[] #[]) [a]) c fun a c=>
 (∃ d:(Nat->Bool)->Value->Value->Value->Value->Value->Value->Value->World->Prop,d (fun _=>false) undef undef undef undef undef undef undef { c with drawn:=c.drawn+1 }/\(
 (∀ b:Nat->Bool,b 0=false->∀ c e f g h i j k,d b c e f g h i j k->
 d (ao b 0) c e f g h i a k)/\
 (∀ a:Nat->Bool,a 1=false->a 0=true->∀ b c e f g h i j,d a b c e f g h i j->
 RR (sOp (.indexAddr 23 (.const i) (.const (.int .i64 0))) 0) j fun h j=>
 d (ao a 1) b c e f g h i j)/\
 (∀ a:Nat->Bool,a 2=false->a 1=true->∀ b c e f g h i j,d a b c e f g h i j->
 RR (sOp (.load 25 (.const h)) 25) j fun g j=>
 d (ao a 2) b c e f g h i j)/\
 (∀ b:Nat->Bool,b 3=false->∀ c e f g h i j k,d b c e f g h i j k->
 d (ao b 3) c e f a h i j k)/\
 (∀ a:Nat->Bool,a 4=false->a 3=true->∀ b c e f g h i j,d a b c e f g h i j->
 RR (sOp (.slice 23 (.const f) (some (.const (.int .i64 1))) none none) 23) j fun e j=>
 d (ao a 4) b c e f g h i j)/\
 (∀ a:Nat->Bool,a 5=false->a 4=true->∀ b c e f g h i j,d a b c e f g h i j->
 RR (aF (.func (.func 58) #[] #[]) [e]) j fun c j=>
 d (ao a 5) b c e f g h i j)/\
 (∀ a:Nat->Bool,a 6=false->a 2=true->a 5=true->∀ b c e f g h i j,d a b c e f g h i j->
 RR (bP 27 [(0,g),(1,c)]) j fun b j=>
 d (ao a 6) b c e f g h i j)/\
 (∀ a:Nat->Bool,a 7=false->a 6=true->a 5=true->a 0=true->a 1=true->a 2=true->a 3=true->a 4=true->a 5=true->a 6=true->∀ c e f g h i j k,d a c e f g h i j k->
 RR (sOp (.store 27 (.const b) (.const c)) 0) k fun _ b=>
 d (ao a 7) c e f g h i j b)/\
 True)/\
 ∀ a:Nat->Bool,a 7=true->a 6=true->a 5=true->a 4=true->a 3=true->a 2=true->a 1=true->a 0=true->∀ c e f g h i j k,d a c e f g h i j k->
 (a4 Tryz.prog 27 b k fun a=>R (.returned a) k))
theorem uG {p0:Value} {w:World} {R:Ending->World->Prop} (h:pc p0 w R):Calls Tryz.prog 28 #[p0] w R:=
  aK .leaf [p0] bp Tryz.func28 (by kernel_rfl) (by kernel_rfl) h


/- loop.example/prologserver/impl.isPlain : function 29 -/
def sr (p0:Value) (w:World) (R:Ending->World->Prop):Prop:=
 RR (sOp (.box 25 (.const p0)) 0) w fun a b=>
 RR (sOp (.fieldAddr 25 (.const a) 0) 0) b fun b c=>
 RR (sOp (.load 3 (.const b)) 3) c fun b c=>
 RR (av .eql 3 false true b (.int .i64 3)) c fun b c=>
 ((fun d:VW=>ai b true (
 RR (sOp (.fieldAddr 25 (.const a) 2) 0) c fun a c=>
 RR (sOp (.load 9 (.const a)) 9) c fun a c=>
 RR (aF (.func (.func 59) #[] #[]) [a]) c fun a c=>
 RR (sOp (.pick (.const b) (.const a) (.const (.bool false))) 4) c fun a b=>d a b) (
 RR (sOp (.pick (.const b) (.const undef) (.const (.bool false))) 4) c fun a b=>d a b)) fun b c=>
 ((fun d:VW=>ai b true (
 RR (sOp (.fieldAddr 25 (.const a) 2) 0) c fun a c=>
 RR (sOp (.load 9 (.const a)) 9) c fun a c=>
 RR (aF (.func (.func 60) #[] #[]) [a]) c fun a c=>
 RR (sOp (.unOp .not 4 (.const a)) 4) c fun a c=>
 RR (sOp (.pick (.const b) (.const a) (.const (.bool false))) 4) c fun a b=>d a b) (
 RR (sOp (.pick (.const b) (.const undef) (.const (.bool false))) 4) c fun a b=>d a b)) fun b c=>
 ai b true (
 RR (sOp (.load 25 (.const a)) 25) c fun a c=>
 RR (aF (.func (.func 61) #[] #[]) [a]) c fun a c=>
 RR (sOp (.unOp .not 4 (.const a)) 4) c fun a c=>
 RR (sOp (.pick (.const b) (.const a) (.const (.bool false))) 4) c fun a b=>
 R (.returned a) b) (
 RR (sOp (.pick (.const b) (.const undef) (.const (.bool false))) 4) c fun a b=>
 R (.returned a) b)))
theorem xh {p0:Value} {w:World} {R:Ending->World->Prop} (h:sr p0 w R):Calls Tryz.prog 29 #[p0] w R:=
  aK .leaf [p0] bp Tryz.func29 (by kernel_rfl) (by kernel_rfl) h


/- loop.example/prologserver/impl.goalsValid : function 30 -/
def mB (p0:Value) (w:World) (R:Ending->World->Prop):Prop:=
 RR (aE .len #[23] 3 [false] [p0]) w fun a b=>
 RR (av .leq 3 false true a (.int .i64 6)) b fun a b=>
 ai a true (
 RR (aF (.func (.func 62) #[] #[]) [p0,(.func (.func 63) #[] #[])]) b fun b c=>
 RR (sOp (.unOp .not 4 (.const b)) 4) c fun b c=>
 RR (sOp (.pick (.const a) (.const b) (.const (.bool false))) 4) c fun a b=>
 R (.returned a) b) (
 RR (sOp (.pick (.const a) (.const undef) (.const (.bool false))) 4) b fun a b=>
 R (.returned a) b)
theorem p8 {p0:Value} {w:World} {R:Ending->World->Prop} (h:mB p0 w R):Calls Tryz.prog 30 #[p0] w R:=
  aK .leaf [p0] bp Tryz.func30 (by kernel_rfl) (by kernel_rfl) h


/- loop.example/prologserver/spec.l15Texts : function 31 -/
def pn (w:World) (R:Ending->World->Prop):Prop:=
 RR (aQ 55 7 [(0,(.string ⟨#[113,40,65,41,58,45,112,40,65,41,44,114,40,65,41,46,10,112,40,49,41,46,10,112,40,66,41,58,45,66,61,50,46,10,114,40,49,41,46,10,114,40,50,41,46,10]⟩)),(1,(.string ⟨#[116,40,65,44,66,41,58,45,101,40,65,44,67,41,44,101,40,67,44,66,41,46,10,101,40,97,44,98,41,46,10,101,40,98,44,99,41,46,10]⟩)),(2,(.string ⟨#[116,119,111,40,65,41,58,45,97,112,112,40,66,44,67,44,65,41,44,66,61,91,68,93,46,10,97,112,112,40,91,93,44,65,44,65,41,46,10,97,112,112,40,91,65,124,66,93,44,67,44,91,65,124,68,93,41,58,45,97,112,112,40,66,44,67,44,68,41,46,10]⟩)),(3,(.string ⟨#[115,40,65,41,58,45,102,40,65,44,120,41,46,10,102,40,103,40,66,41,44,66,41,46,10,102,40,104,40,66,41,44,121,41,46,10]⟩)),(4,(.string ⟨#[113,40,65,41,58,45,112,40,65,41,44,33,46,10,112,40,49,41,46,10,112,40,50,41,46,10]⟩)),(5,(.string ⟨#[113,40,65,41,58,45,112,40,65,41,46,10,112,40,65,41,58,45,65,62,48,44,33,46,10,112,40,50,41,46,10]⟩)),(6,(.string ⟨#[110,40,65,41,58,45,110,40,65,41,46,10,110,40,49,41,46,10]⟩))]) w fun a b=>
 R (.returned a) b
theorem tZ {w:World} {R:Ending->World->Prop} (h:pn w R):Calls Tryz.prog 31 #[] w R:=
  aK .leaf [] bp Tryz.func31 (by kernel_rfl) (by kernel_rfl) h


/- loop.example/prologserver/spec.ParseProgram : function 32 -/
def kw (p0:Value) (w:World) (R:Ending->World->Prop):Prop:=
 RR (aQ 39 0 []) w fun a b=>
 RR (aF (.func (.func 65) #[] #[]) [p0,(.int .u8 10)]) b fun b c=>
 (∃ d:Value->World->Prop,(
 RR (aE .len #[55] 3 [false] [b]) c fun a c=>
 RR (av .gtr 3 false true a (.int .i64 21)) c fun a c=>
 ai a false (
 RR (aE .len #[55] 3 [false] [b]) c fun c e=>
 RR (av .sub 3 false true c (.int .i64 1)) e fun c e=>
 RR (sOp (.indexAddr 55 (.const b) (.const c)) 0) e fun b c=>
 RR (sOp (.load 9 (.const b)) 9) c fun b c=>
 RR (av .neq 9 false true b (.string ⟨#[]⟩)) c fun b c=>
 RR (sOp (.pick (.const a) (.const (.bool true)) (.const b)) 4) c fun a b=>
 d a b) (
 RR (sOp (.pick (.const a) (.const (.bool true)) (.const undef)) 4) c fun a b=>
 d a b))/\
 ∀ c _ _ _ _ _ _ _ _ _ _ _:Value,∀ e:World,d c e->
 CondV c (
 R (.returned (.tuple #[a,(.bool false)])) e) (
 (∃ (c:Value->Value->World->Prop) (d:Value->Value->World->Nat),c (.int .i64 0) a e/\
 ∀ a _ _ e _ _ _ _ _ _ _ _ _ _ _ _ _ _ _ _ _ _ _ _ _ _ _ _:Value,∀ f:World,c a e f->
 RR (av .add 3 false true a (.int .i64 1)) f fun g h=>
 RR (aE .len #[55] 3 [false] [b]) h fun h i=>
 RR (av .lss 3 false false g h) i fun g h=>
 CondV g (
 RR (sOp (.indexAddr 55 (.const b) (.const a)) 0) h fun b g=>
 RR (sOp (.load 9 (.const b)) 9) g fun b g=>
 RR (aF (.func (.func 66) #[] #[]) [b]) g fun b g=>
 RR (sOp (.extract (.const b) 0) 27) g fun g h=>
 RR (sOp (.extract (.const b) 1) 4) h fun b h=>
 RR (sOp (.alloc 27) 0) h fun h i=>
 RR (sOp (.store 27 (.const h) (.const g)) 0) i fun _ g=>
 RR (sOp (.unOp .not 4 (.const b)) 4) g fun b g=>
 CondV b (
 RR (aQ 39 0 []) g fun a b=>
 R (.returned (.tuple #[a,(.bool false)])) b) (
 RR (sOp (.load 27 (.const h)) 27) g fun b g=>
 RR (aQ 39 1 [(0,b)]) g fun b g=>
 RR (aE .append #[39,39] 39 [false,false] [e,b]) g fun b g=>
 RR (av .add 3 false true a (.int .i64 1)) g fun g h=>
 c g b h/\d g b h<d a e f)) (
 R (.returned (.tuple #[e,(.bool true)])) h))))
theorem oq {p0:Value} {w:World} {R:Ending->World->Prop} (h:kw p0 w R):Calls Tryz.prog 32 #[p0] w R:=
  aK (.seq none .leaf (.seq none .leaf (.seq none .leaf (.seq none (.seq (some [23]) .leaf .leaf) (.seq none (.seq none .leaf (.one (.loop [6,4] .leaf))) .leaf))))) [p0] bp Tryz.func32 (by kernel_rfl) (by kernel_rfl) h


/- loop.example/prologserver/spec.ParseQuery : function 33 -/
def mI (p0:Value) (w:World) (R:Ending->World->Prop):Prop:=
 RR (aE .len #[9] 3 [false] [p0]) w fun a b=>
 RR (av .gtr 3 false true a (.int .i64 1000)) b fun a b=>
 CondV a (
 RR (aQ 23 0 []) b fun a b=>
 R (.returned (.tuple #[a,(.bool false)])) b) (
 RR (aF (.func (.func 67) #[] #[]) [p0,(.int .i64 0)]) b fun a b=>
 RR (sOp (.extract (.const a) 0) 23) b fun b c=>
 RR (sOp (.extract (.const a) 1) 3) c fun a c=>
 (∃ d:Value->World->Prop,(
 RR (aE .len #[9] 3 [false] [p0]) c fun c e=>
 RR (av .neq 3 false false a c) e fun a c=>
 ai a false (
 RR (aF (.func (.func 68) #[] #[]) [b]) c fun b c=>
 RR (sOp (.unOp .not 4 (.const b)) 4) c fun b c=>
 RR (sOp (.pick (.const a) (.const (.bool true)) (.const b)) 4) c fun a b=>
 d a b) (
 RR (sOp (.pick (.const a) (.const (.bool true)) (.const undef)) 4) c fun a b=>
 d a b))/\
 ∀ a _ _ _ _ _ _ _ _:Value,∀ c:World,d a c->
 CondV a (
 RR (aQ 23 0 []) c fun a b=>
 R (.returned (.tuple #[a,(.bool false)])) b) (
 RR (aQ 23 0 []) c fun a c=>
 (∃ (d:Value->Value->World->Prop) (e:Value->Value->World->Nat),d (.int .i64 0) a c/\
 ∀ a _ _ c _ _ _ _ _ _ _ _ _ _ _ _:Value,∀ f:World,d a c f->
 RR (aE .len #[23] 3 [false] [b]) f fun g h=>
 RR (av .lss 3 false false a g) h fun g h=>
 CondV g (
 RR (sOp (.indexAddr 23 (.const b) (.const a)) 0) h fun b g=>
 RR (sOp (.load 25 (.const b)) 25) g fun b g=>
 RR (aF (.func (.func 53) #[] #[]) [b]) g fun b g=>
 RR (aQ 23 1 [(0,b)]) g fun b g=>
 RR (aE .append #[23,23] 23 [false,false] [c,b]) g fun b g=>
 RR (av .add 3 false true a (.int .i64 1)) g fun g h=>
 d g b h/\e g b h<e a c f) (
 R (.returned (.tuple #[c,(.bool true)])) h)))))
theorem qw {p0:Value} {w:World} {R:Ending->World->Prop} (h:mI p0 w R):Calls Tryz.prog 33 #[p0] w R:=
  aK (.seq none .leaf (.seq none .leaf (.seq none .leaf (.seq none (.seq (some [25]) .leaf .leaf) (.seq none .leaf (.seq none (.seq none .leaf (.one (.loop [7,6] .leaf))) .leaf)))))) [p0] bp Tryz.func33 (by kernel_rfl) (by kernel_rfl) h


/- loop.example/prologserver/spec.l15Queries : function 34 -/
def mA (w:World) (R:Ending->World->Prop):Prop:=
 RR (aQ 55 7 [(0,(.string ⟨#[113,40,65,41]⟩)),(1,(.string ⟨#[116,40,65,44,66,41]⟩)),(2,(.string ⟨#[116,119,111,40,91,49,44,50,93,41]⟩)),(3,(.string ⟨#[115,40,65,41]⟩)),(4,(.string ⟨#[113,40,50,41]⟩)),(5,(.string ⟨#[113,40,66,41]⟩)),(6,(.string ⟨#[110,40,65,41]⟩))]) w fun a b=>
 R (.returned a) b
theorem qt {w:World} {R:Ending->World->Prop} (h:mA w R):Calls Tryz.prog 34 #[] w R:=
  aK .leaf [] bp Tryz.func34 (by kernel_rfl) (by kernel_rfl) h


/- loop.example/prologserver/spec.l4Texts : function 35 -/
def s9 (w:World) (R:Ending->World->Prop):Prop:=
 RR (aQ 55 11 [(0,(.string ⟨#[97,112,112,40,91,93,44,65,44,65,41,46,10,97,112,112,40,91,65,124,66,93,44,67,44,91,65,124,68,93,41,58,45,97,112,112,40,66,44,67,44,68,41,46,10]⟩)),(1,(.string ⟨#[109,101,109,40,65,44,91,65,124,66,93,41,46,10,109,101,109,40,65,44,91,66,124,67,93,41,58,45,109,101,109,40,65,44,67,41,46,10]⟩)),(2,(.string ⟨#[112,40,49,41,46,10,112,40,50,41,46,10,112,40,51,41,46,10,113,40,65,41,58,45,112,40,65,41,44,65,62,49,44,33,46,10,114,40,65,44,66,41,58,45,112,40,65,41,44,112,40,66,41,46,10]⟩)),(3,(.string ⟨#[108,101,110,40,91,93,44,48,41,46,10,108,101,110,40,91,65,124,66,93,44,67,41,58,45,108,101,110,40,66,44,68,41,44,67,32,105,115,32,68,43,49,46,10]⟩)),(4,(.string ⟨#[109,97,120,40,65,44,66,44,65,41,58,45,65,62,61,66,44,33,46,10,109,97,120,40,65,44,66,44,66,41,46,10]⟩)),(5,(.string ⟨#[101,40,97,44,98,41,46,10,101,40,98,44,99,41,46,10,101,40,99,44,100,41,46,10,116,40,65,44,66,41,58,45,101,40,65,44,66,41,46,10,116,40,65,44,66,41,58,45,101,40,65,44,67,41,44,116,40,67,44,66,41,46,10]⟩)),(6,(.string ⟨#[108,111,111,112,58,45,108,111,111,112,46,10,111,107,46,10]⟩)),(7,(.string ⟨#[102,97,99,40,48,44,49,41,58,45,33,46,10,102,97,99,40,65,44,66,41,58,45,65,62,48,44,67,32,105,115,32,65,45,49,44,102,97,99,40,67,44,68,41,44,66,32,105,115,32,65,42,68,46,10]⟩)),(8,(.string ⟨#[115,40,65,41,58,45,65,61,102,40,66,41,44,97,114,103,40,49,44,65,44,66,41,44,66,61,49,46,10,115,40,65,41,58,45,118,97,114,40,65,41,44,65,61,110,111,110,101,46,10]⟩)),(9,(.string ⟨#[114,101,118,40,91,93,44,65,44,65,41,46,10,114,101,118,40,91,65,124,66,93,44,67,44,68,41,58,45,114,101,118,40,66,44,91,65,124,67,93,44,68,41,46,10]⟩)),(10,(.string ⟨#[98,97,100,40,65,41,58,45,66,32,105,115,32,65,43,102,111,111,44,67,61,66,46,10,98,105,103,40,65,41,58,45,65,32,105,115,32,57,57,57,43,49,46,10,117,110,40,65,41,58,45,110,111,115,117,99,104,40,65,41,46,10]⟩))]) w fun a b=>
 R (.returned a) b
theorem wb {w:World} {R:Ending->World->Prop} (h:s9 w R):Calls Tryz.prog 35 #[] w R:=
  aK .leaf [] bp Tryz.func35 (by kernel_rfl) (by kernel_rfl) h


/- loop.example/prologserver/spec.l1Mutate : function 36 -/
def pD (p0 p1:Value) (w:World) (R:Ending->World->Prop):Prop:=
 RR (sOp (.box 25 (.const p1)) 0) w fun a b=>
 RR (sOp (.alloc 25) 0) b fun b c=>
 RR (sOp (.load 25 (.const a)) 25) c fun a c=>
 RR (aF (.func (.func 53) #[] #[]) [a]) c fun a c=>
 RR (sOp (.alloc 25) 0) c fun c d=>
 RR (sOp (.store 25 (.const c) (.const a)) 0) d fun _ a=>
 (∃ d:World->Prop,(
 RR (aF (.func (.func 14) #[] #[]) [p0,(.int .i64 50)]) a fun a b=>
 RR (av .eql 3 false true a (.int .i64 0)) b fun b e=>
 CondV b (
 RR (aQ 85 5 [(0,(.int .i64 0)),(1,(.int .i64 4)),(2,(.int .i64 1)),(3,(.int .i64 2)),(4,(.int .i64 3))]) e fun a b=>
 RR (aF (.func (.func 69) #[] #[]) [p0,a]) b fun a b=>
 RR (sOp (.fieldAddr 25 (.const c) 0) 0) b fun b c=>
 RR (sOp (.store 3 (.const b) (.const a)) 0) c fun _ a=>
 d a) (
 RR (av .eql 3 false true a (.int .i64 1)) e fun b e=>
 CondV b (
 RR (aQ 85 5 [(0,(.int .i64 26)),(1,(.int .i64 1000)),(2,(.int .i64 (-1000))),(3,(.int .i64 (-1))),(4,(.int .i64 1))]) e fun a b=>
 RR (aF (.func (.func 69) #[] #[]) [p0,a]) b fun a b=>
 RR (sOp (.fieldAddr 25 (.const c) 1) 0) b fun b c=>
 RR (sOp (.store 3 (.const b) (.const a)) 0) c fun _ a=>
 d a) (
 RR (av .eql 3 false true a (.int .i64 2)) e fun b e=>
 CondV b (
 RR (aQ 55 5 [(0,(.string ⟨#[]⟩)),(1,(.string ⟨#[88]⟩)),(2,(.string ⟨#[116,111,111,108,111,110,103]⟩)),(3,(.string ⟨#[195,169]⟩)),(4,(.string ⟨#[97]⟩))]) e fun a b=>
 RR (aF (.func (.func 39) #[] #[]) [p0,a]) b fun a b=>
 RR (sOp (.fieldAddr 25 (.const c) 2) 0) b fun b c=>
 RR (sOp (.store 9 (.const b) (.const a)) 0) c fun _ a=>
 d a) (
 RR (av .eql 3 false true a (.int .i64 3)) e fun b e=>
 CondV b (
 (∃ (a:World->Prop) (b:World->Nat),a e/\
 ∀ e f g h i j _ _ _ _:Value,∀ k:World,a k->
 RR (sOp (.fieldAddr 25 (.const c) 3) 0) k fun l m=>
 RR (sOp (.load 23 (.const l)) 23) m fun l m=>
 RR (aE .len #[23] 3 [false] [l]) m fun l m=>
 RR (av .leq 3 false true l (.int .i64 4)) m fun l m=>
 CondV l (
 (∃ d:(Nat->Bool)->Value->Value->Value->Value->Value->Value->World->Prop,d (fun _=>false) e f g h i j { m with drawn:=m.drawn+1 }/\(
 (∀ a:Nat->Bool,a 0=false->∀ b e f g h i j,d a b e f g h i j->
 RR (sOp (.fieldAddr 25 (.const c) 3) 0) j fun c i=>
 d (ao a 0) b e f g h c i)/\
 (∀ a:Nat->Bool,a 1=false->a 0=true->∀ b c e f g h i,d a b c e f g h i->
 RR (sOp (.load 23 (.const h)) 23) i fun g i=>
 d (ao a 1) b c e f g h i)/\
 (∀ a:Nat->Bool,a 2=false->∀ b c e f g h i,d a b c e f g h i->
 RR (aF (.func (.func 70) #[] #[]) [(.int .i64 1)]) i fun f i=>
 d (ao a 2) b c e f g h i)/\
 (∀ a:Nat->Bool,a 3=false->a 2=true->∀ b c e f g h i,d a b c e f g h i->
 RR (aQ 23 1 [(0,f)]) i fun e i=>
 d (ao a 3) b c e f g h i)/\
 (∀ a:Nat->Bool,a 4=false->a 1=true->a 3=true->a 2=true->∀ b c e f g h i,d a b c e f g h i->
 RR (aE .append #[23,23] 23 [false,false] [g,e]) i fun c i=>
 d (ao a 4) b c e f g h i)/\
 (∀ a:Nat->Bool,a 5=false->a 0=true->a 1=true->a 2=true->a 3=true->a 4=true->∀ b e f g h i j,d a b e f g h i j->
 RR (sOp (.fieldAddr 25 (.const c) 3) 0) j fun b c=>
 d (ao a 5) b e f g h i c)/\
 (∀ a:Nat->Bool,a 6=false->a 5=true->a 4=true->a 4=true->a 0=true->a 1=true->a 2=true->a 3=true->a 4=true->∀ b c e f g h i,d a b c e f g h i->
 RR (sOp (.store 23 (.const b) (.const c)) 0) i fun _ i=>
 d (ao a 6) b c e f g h i)/\
 True)/\
 ∀ c:Nat->Bool,c 6=true->c 5=true->c 4=true->c 3=true->c 2=true->c 1=true->c 0=true->∀ e f g h i j l,d c e f g h i j l->
 a l/\b l<b k)) (
 d m))) (
 RR (av .eql 3 false true a (.int .i64 4)) e fun a b=>
 CondV a (
 (∃ (a:Value->World->Prop) (e:Value->World->Nat),a (.int .i64 0) b/\
 ∀ b _ _ _ _ _ _ _:Value,∀ f:World,a b f->
 RR (av .lss 3 false true b (.int .i64 30)) f fun g h=>
 CondV g (
 RR (sOp (.load 25 (.const c)) 25) h fun d g=>
 RR (aQ 23 1 [(0,d)]) g fun d g=>
 RR (aF (.func (.func 38) #[] #[]) [(.string ⟨#[115]⟩),d]) g fun d g=>
 RR (sOp (.store 25 (.const c) (.const d)) 0) g fun _ c=>
 RR (av .add 3 false true b (.int .i64 1)) c fun c d=>
 a c d/\e c d<e b f) (
 d h))) (
 d b))))))/\
 ∀ _ _ _ _ _ _ _ _ _ _ _ _ _ _ _ _ _ _ _ _ _ _ _ _ _ _ _ _ _ _ _ _ _ _ _ _ _ _ _ _ _ _:Value,∀ a:World,d a->
 RR (sOp (.load 25 (.const c)) 25) a fun a c=>
 RR (sOp (.store 25 (.const b) (.const a)) 0) c fun _ a=>
 (a4 Tryz.prog 25 b a fun b=>R (.returned b) a))
theorem tS {p0 p1:Value} {w:World} {R:Ending->World->Prop} (h:pD p0 p1 w R):Calls Tryz.prog 36 #[p0,p1] w R:=
  aK (.seq none .leaf (.seq none .leaf (.seq (some []) (.seq none .leaf (.one (.seq none .leaf (.two .leaf (.seq none .leaf (.two .leaf (.seq none .leaf (.two .leaf (.seq none .leaf (.two (.one (.loop [] .leaf)) (.seq none .leaf (.two (.seq none .leaf (.one (.loop [6] .leaf))) .leaf)))))))))))) .leaf))) [p0,p1] bp Tryz.func36 (by kernel_rfl) (by kernel_rfl) h


/- loop.example/prologserver/spec.l1Some : function 37 -/
def u6 (p0:Value) (w:World) (R:Ending->World->Prop):Prop:=
 RR (sOp (.alloc 25) 0) w fun a b=>
 RR (aQ 85 4 [(0,(.int .i64 3)),(1,(.int .i64 2)),(2,(.int .i64 4)),(3,(.int .i64 1))]) b fun b c=>
 RR (aF (.func (.func 69) #[] #[]) [p0,b]) c fun b c=>
 RR (aF (.func (.func 71) #[] #[]) [p0,b]) c fun b c=>
 RR (sOp (.store 25 (.const a) (.const b)) 0) c fun _ b=>
 (a4 Tryz.prog 25 a b fun a=>R (.returned a) b)
theorem yi {p0:Value} {w:World} {R:Ending->World->Prop} (h:u6 p0 w R):Calls Tryz.prog 37 #[p0] w R:=
  aK .leaf [p0] bp Tryz.func37 (by kernel_rfl) (by kernel_rfl) h


/- loop.example/prologserver/spec.l1Struct : function 38 -/
def pT (p0 p1:Value) (w:World) (R:Ending->World->Prop):Prop:=
 RR (sOp (.alloc 25) 0) w fun a b=>
 RR (aQ 23 0 []) b fun b c=>
 RR (aE .append #[23,23] 23 [false,false] [b,p1]) c fun b c=>
 RR (bP 25 [(0,(.int .i64 3)),(2,p0),(3,b)]) c fun b c=>
 RR (sOp (.store 25 (.const a) (.const b)) 0) c fun _ b=>
 (a4 Tryz.prog 25 a b fun a=>R (.returned a) b)
theorem uI {p0 p1:Value} {w:World} {R:Ending->World->Prop} (h:pT p0 p1 w R):Calls Tryz.prog 38 #[p0,p1] w R:=
  aK .leaf [p0,p1] bp Tryz.func38 (by kernel_rfl) (by kernel_rfl) h


/- (*loop.example/prologserver/spec.l18Rd).of : function 39 -/
def pJ (p0 p1:Value) (w:World) (R:Ending->World->Prop):Prop:=
 RR (aE .len #[55] 3 [false] [p1]) w fun a b=>
 RR (aF (.func (.func 14) #[] #[]) [p0,a]) b fun a b=>
 RR (sOp (.indexAddr 55 (.const p1) (.const a)) 0) b fun a b=>
 RR (sOp (.load 9 (.const a)) 9) b fun a b=>
 R (.returned a) b
theorem un {p0 p1:Value} {w:World} {R:Ending->World->Prop} (h:pJ p0 p1 w R):Calls Tryz.prog 39 #[p0,p1] w R:=
  aK .leaf [p0,p1] bp Tryz.func39 (by kernel_rfl) (by kernel_rfl) h


/- loop.example/prologserver/impl.newStore : function 40 -/
def pp (w:World) (R:Ending->World->Prop):Prop:=
 RR (sOp (.makeMap 51 none) 51) w fun a b=>
 RR (bP 88 [(0,a)]) b fun a b=>
 RR (sOp (.box 88 (.const a)) 65) b fun a b=>
 R (.returned a) b
theorem ue {w:World} {R:Ending->World->Prop} (h:pp w R):Calls Tryz.prog 40 #[] w R:=
  aK .leaf [] bp Tryz.func40 (by kernel_rfl) (by kernel_rfl) h


/- loop.example/prologserver/impl.resolvent$1 : function 41 -/
def k0 (p0:Value) (w:World) (R:Ending->World->Prop):Prop:=
 RR (sOp (.alloc 25) 0) w fun a b=>
 RR (av .add 3 false true p0 (.int .i64 25)) b fun b c=>
 RR (av .add 3 false true b (.int .i64 1)) c fun b c=>
 RR (aF (.func (.func 42) #[] #[]) [b]) c fun b c=>
 RR (sOp (.store 25 (.const a) (.const b)) 0) c fun _ b=>
 (a4 Tryz.prog 25 a b fun a=>R (.returned a) b)
theorem o9 {p0:Value} {w:World} {R:Ending->World->Prop} (h:k0 p0 w R):Calls Tryz.prog 41 #[p0] w R:=
  aK .leaf [p0] bp Tryz.func41 (by kernel_rfl) (by kernel_rfl) h


/- loop.example/prologserver/impl.variable : function 42 -/
def pu (p0:Value) (w:World) (R:Ending->World->Prop):Prop:=
 RR (sOp (.alloc 25) 0) w fun a b=>
 RR (bP 25 [(0,(.int .i64 1)),(1,p0)]) b fun b c=>
 RR (sOp (.store 25 (.const a) (.const b)) 0) c fun _ b=>
 (a4 Tryz.prog 25 a b fun a=>R (.returned a) b)
theorem ur {p0:Value} {w:World} {R:Ending->World->Prop} (h:pu p0 w R):Calls Tryz.prog 42 #[p0] w R:=
  aK .leaf [p0] bp Tryz.func42 (by kernel_rfl) (by kernel_rfl) h


/- (*loop.example/prologserver/impl.store).unify : function 43 -/
def lo (p0 p1 p2:Value) (w:World) (R:Ending->World->Prop):Prop:=
 RR (sOp (.box 25 (.const p1)) 0) w fun a b=>
 RR (sOp (.box 25 (.const p2)) 0) b fun b c=>
 (∃ d:(Nat->Bool)->Value->Value->Value->Value->Value->Value->World->Prop,d (fun _=>false) undef undef undef undef undef undef { c with drawn:=c.drawn+1 }/\(
 (∀ a:Nat->Bool,a 0=false->∀ b c e f g h i,d a b c e f g h i->
 d (ao a 0) b c e f g p0 i)/\
 (∀ b:Nat->Bool,b 1=false->∀ c e f g h i j,d b c e f g h i j->
 RR (sOp (.load 25 (.const a)) 25) j fun a h=>
 d (ao b 1) c e f g a i h)/\
 (∀ a:Nat->Bool,a 2=false->a 0=true->a 1=true->∀ b c e f g h i,d a b c e f g h i->
 RR (aF (.func (.func 72) #[] #[]) [h,g]) i fun f i=>
 d (ao a 2) b c e f g h i)/\
 (∀ a:Nat->Bool,a 3=false->∀ b c e f g h i,d a b c e f g h i->
 d (ao a 3) b c p0 f g h i)/\
 (∀ a:Nat->Bool,a 4=false->∀ c e f g h i j,d a c e f g h i j->
 RR (sOp (.load 25 (.const b)) 25) j fun b e=>
 d (ao a 4) c b f g h i e)/\
 (∀ a:Nat->Bool,a 5=false->a 3=true->a 4=true->a 2=true->∀ b c e f g h i,d a b c e f g h i->
 RR (aF (.func (.func 72) #[] #[]) [e,c]) i fun b i=>
 d (ao a 5) b c e f g h i)/\
 (∀ b:Nat->Bool,b 6=false->b 2=true->b 5=true->b 0=true->b 1=true->b 2=true->∀ c e f g h i j,d b c e f g h i j->
 RR (sOp (.store 25 (.const a) (.const g)) 0) j fun _ a=>
 d (ao b 6) c e f g h i a)/\
 (∀ a:Nat->Bool,a 7=false->a 5=true->a 6=true->a 0=true->a 1=true->a 2=true->a 3=true->a 4=true->a 5=true->a 6=true->∀ c e f g h i j,d a c e f g h i j->
 RR (sOp (.store 25 (.const b) (.const c)) 0) j fun _ b=>
 d (ao a 7) c e f g h i b)/\
 True)/\
 ∀ c:Nat->Bool,c 7=true->c 6=true->c 5=true->c 4=true->c 3=true->c 2=true->c 1=true->c 0=true->∀ e f g h i j k,d c e f g h i j k->
 (∃ c:Value->World->Prop,(
 RR (sOp (.fieldAddr 25 (.const a) 0) 0) k fun d e=>
 RR (sOp (.load 3 (.const d)) 3) e fun d e=>
 RR (av .eql 3 false true d (.int .i64 1)) e fun d e=>
 ((fun a:VW=>ai d true (
 RR (sOp (.fieldAddr 25 (.const b) 0) 0) e fun b c=>
 RR (sOp (.load 3 (.const b)) 3) c fun b c=>
 RR (av .eql 3 false true b (.int .i64 1)) c fun b c=>
 RR (sOp (.pick (.const d) (.const b) (.const (.bool false))) 4) c fun b c=>a b c) (
 RR (sOp (.pick (.const d) (.const undef) (.const (.bool false))) 4) e fun b c=>a b c)) fun d e=>
 ai d true (
 RR (sOp (.fieldAddr 25 (.const a) 1) 0) e fun a e=>
 RR (sOp (.load 3 (.const a)) 3) e fun a e=>
 RR (sOp (.fieldAddr 25 (.const b) 1) 0) e fun b e=>
 RR (sOp (.load 3 (.const b)) 3) e fun b e=>
 RR (av .eql 3 false false a b) e fun a b=>
 RR (sOp (.pick (.const d) (.const a) (.const (.bool false))) 4) b fun a b=>
 c a b) (
 RR (sOp (.pick (.const d) (.const undef) (.const (.bool false))) 4) e fun a b=>
 c a b)))/\
 ∀ d _ _ _ _ _ _ _ _ _ _ _ _ _ _ _:Value,∀ e:World,c d e->
 CondV d (
 R (.returned (.bool true)) e) (
 RR (sOp (.fieldAddr 25 (.const a) 0) 0) e fun c d=>
 RR (sOp (.load 3 (.const c)) 3) d fun c d=>
 RR (av .eql 3 false true c (.int .i64 1)) d fun c d=>
 CondV c (
 RR (sOp (.fieldAddr 25 (.const a) 1) 0) d fun a c=>
 RR (sOp (.load 3 (.const a)) 3) c fun a c=>
 RR (sOp (.load 25 (.const b)) 25) c fun b c=>
 RR (aF (.func (.func 73) #[] #[]) [p0,a,b]) c fun a b=>
 R (.returned a) b) (
 RR (sOp (.fieldAddr 25 (.const b) 0) 0) d fun c d=>
 RR (sOp (.load 3 (.const c)) 3) d fun c d=>
 RR (av .eql 3 false true c (.int .i64 1)) d fun c d=>
 CondV c (
 RR (sOp (.fieldAddr 25 (.const b) 1) 0) d fun b c=>
 RR (sOp (.load 3 (.const b)) 3) c fun b c=>
 RR (sOp (.load 25 (.const a)) 25) c fun a c=>
 RR (aF (.func (.func 73) #[] #[]) [p0,b,a]) c fun a b=>
 R (.returned a) b) (
 (∃ c:Value->World->Prop,(
 RR (sOp (.fieldAddr 25 (.const a) 0) 0) d fun d e=>
 RR (sOp (.load 3 (.const d)) 3) e fun d e=>
 RR (sOp (.fieldAddr 25 (.const b) 0) 0) e fun e f=>
 RR (sOp (.load 3 (.const e)) 3) f fun e f=>
 RR (av .neq 3 false false d e) f fun d e=>
 ((fun c:VW=>ai d false (
 RR (sOp (.fieldAddr 25 (.const a) 1) 0) e fun a e=>
 RR (sOp (.load 3 (.const a)) 3) e fun a e=>
 RR (sOp (.fieldAddr 25 (.const b) 1) 0) e fun b e=>
 RR (sOp (.load 3 (.const b)) 3) e fun b e=>
 RR (av .neq 3 false false a b) e fun a b=>
 RR (sOp (.pick (.const d) (.const (.bool true)) (.const a)) 4) b fun a b=>c a b) (
 RR (sOp (.pick (.const d) (.const (.bool true)) (.const undef)) 4) e fun a b=>c a b)) fun d e=>
 ((fun c:VW=>ai d false (
 RR (sOp (.fieldAddr 25 (.const a) 2) 0) e fun a e=>
 RR (sOp (.load 9 (.const a)) 9) e fun a e=>
 RR (sOp (.fieldAddr 25 (.const b) 2) 0) e fun b e=>
 RR (sOp (.load 9 (.const b)) 9) e fun b e=>
 RR (av .neq 9 false false a b) e fun a b=>
 RR (sOp (.pick (.const d) (.const (.bool true)) (.const a)) 4) b fun a b=>c a b) (
 RR (sOp (.pick (.const d) (.const (.bool true)) (.const undef)) 4) e fun a b=>c a b)) fun d e=>
 ai d false (
 RR (sOp (.fieldAddr 25 (.const a) 3) 0) e fun a e=>
 RR (sOp (.load 23 (.const a)) 23) e fun a e=>
 RR (aE .len #[23] 3 [false] [a]) e fun a e=>
 RR (sOp (.fieldAddr 25 (.const b) 3) 0) e fun b e=>
 RR (sOp (.load 23 (.const b)) 23) e fun b e=>
 RR (aE .len #[23] 3 [false] [b]) e fun b e=>
 RR (av .neq 3 false false a b) e fun a b=>
 RR (sOp (.pick (.const d) (.const (.bool true)) (.const a)) 4) b fun a b=>
 c a b) (
 RR (sOp (.pick (.const d) (.const (.bool true)) (.const undef)) 4) e fun a b=>
 c a b))))/\
 ∀ d _ _ _ _ _ _ _ _ _ _ _ _ _ _ _ _ _ _ _ _ _ _ _ _ _ _ _ _:Value,∀ e:World,c d e->
 CondV d (
 R (.returned (.bool false)) e) (
 RR (sOp (.fieldAddr 25 (.const a) 3) 0) e fun c d=>
 RR (sOp (.load 23 (.const c)) 23) d fun c d=>
 RR (aE .len #[23] 3 [false] [c]) d fun c d=>
 (∃ (e:Value->World->Prop) (f:Value->World->Nat),e (.int .i64 0) d/\
 ∀ d _ _ g h i j k l m n o p q r s _ _ _:Value,∀ t:World,e d t->
 RR (av .lss 3 false false d c) t fun c u=>
 CondV c (
 (∃ c:(Nat->Bool)->Value->Value->Value->Value->Value->Value->Value->Value->Value->Value->Value->Value->Value->World->Prop,c (fun _=>false) g h i j k l m n o p q r s { u with drawn:=u.drawn+1 }/\(
 (∀ a:Nat->Bool,a 0=false->∀ b d e f g h i j k l m n o p,c a b d e f g h i j k l m n o p->
 c (ao a 0) b d e f g h i j k l m n p0 p)/\
 (∀ b:Nat->Bool,b 1=false->∀ d e f g h i j k l m n o p q,c b d e f g h i j k l m n o p q->
 RR (sOp (.fieldAddr 25 (.const a) 3) 0) q fun a o=>
 c (ao b 1) d e f g h i j k l m n a p o)/\
 (∀ a:Nat->Bool,a 2=false->a 1=true->∀ b d e f g h i j k l m n o p,c a b d e f g h i j k l m n o p->
 RR (sOp (.load 23 (.const n)) 23) p fun m p=>
 c (ao a 2) b d e f g h i j k l m n o p)/\
 (∀ a:Nat->Bool,a 3=false->∀ b e f g h i j k l m n o p q,c a b e f g h i j k l m n o p q->
 c (ao a 3) b e f g h i j k l d n o p q)/\
 (∀ a:Nat->Bool,a 4=false->a 2=true->a 3=true->∀ b d e f g h i j k l m n o p,c a b d e f g h i j k l m n o p->
 RR (sOp (.indexAddr 23 (.const m) (.const l)) 0) p fun k p=>
 c (ao a 4) b d e f g h i j k l m n o p)/\
 (∀ a:Nat->Bool,a 5=false->a 4=true->∀ b d e f g h i j k l m n o p,c a b d e f g h i j k l m n o p->
 RR (sOp (.load 25 (.const k)) 25) p fun j p=>
 c (ao a 5) b d e f g h i j k l m n o p)/\
 (∀ a:Nat->Bool,a 6=false->∀ d e f g h i j k l m n o p q,c a d e f g h i j k l m n o p q->
 RR (sOp (.fieldAddr 25 (.const b) 3) 0) q fun b j=>
 c (ao a 6) d e f g h i b k l m n o p j)/\
 (∀ a:Nat->Bool,a 7=false->a 6=true->∀ b d e f g h i j k l m n o p,c a b d e f g h i j k l m n o p->
 RR (sOp (.load 23 (.const i)) 23) p fun h p=>
 c (ao a 7) b d e f g h i j k l m n o p)/\
 (∀ a:Nat->Bool,a 8=false->∀ b e f g h i j k l m n o p q,c a b e f g h i j k l m n o p q->
 c (ao a 8) b e f g d i j k l m n o p q)/\
 (∀ a:Nat->Bool,a 9=false->a 7=true->a 8=true->∀ b d e f g h i j k l m n o p,c a b d e f g h i j k l m n o p->
 RR (sOp (.indexAddr 23 (.const h) (.const g)) 0) p fun f p=>
 c (ao a 9) b d e f g h i j k l m n o p)/\
 (∀ a:Nat->Bool,a 10=false->a 9=true->∀ b d e f g h i j k l m n o p,c a b d e f g h i j k l m n o p->
 RR (sOp (.load 25 (.const f)) 25) p fun e p=>
 c (ao a 10) b d e f g h i j k l m n o p)/\
 (∀ a:Nat->Bool,a 11=false->a 0=true->a 5=true->a 10=true->∀ b d e f g h i j k l m n o p,c a b d e f g h i j k l m n o p->
 RR (aF (.func (.func 43) #[] #[]) [o,j,e]) p fun d p=>
 c (ao a 11) b d e f g h i j k l m n o p)/\
 (∀ a:Nat->Bool,a 12=false->a 11=true->∀ b d e f g h i j k l m n o p,c a b d e f g h i j k l m n o p->
 RR (sOp (.unOp .not 4 (.const d)) 4) p fun b p=>
 c (ao a 12) b d e f g h i j k l m n o p)/\
 True)/\
 ∀ a:Nat->Bool,a 12=true->a 11=true->a 10=true->a 9=true->a 8=true->a 7=true->a 6=true->a 5=true->a 4=true->a 3=true->a 2=true->a 1=true->a 0=true->∀ b g h i j k l m n o p q r s,c a b g h i j k l m n o p q r s->
 CondV b (
 R (.returned (.bool false)) s) (
 RR (av .add 3 false true d (.int .i64 1)) s fun a b=>
 e a b/\f a b<f d t))) (
 R (.returned (.bool true)) u)))))))))
theorem oS {p0 p1 p2:Value} {w:World} {R:Ending->World->Prop} (h:lo p0 p1 p2 w R):Calls Tryz.prog 43 #[p0,p1,p2] w R:=
  aK (.seq none .leaf (.seq none .leaf (.seq none (.one (.seq (some [14]) .leaf (.two .leaf (.seq none .leaf (.two .leaf (.seq none .leaf (.two .leaf (.seq (some [48]) .leaf .leaf)))))))) (.seq none (.seq none .leaf (.one (.loop [80] .leaf))) .leaf)))) [p0,p1,p2] bp Tryz.func43 (by kernel_rfl) (by kernel_rfl) h


/- loop.example/prologserver/impl.mapVars : function 44 -/
def l6 (p0 p1:Value) (w:World) (R:Ending->World->Prop):Prop:=
 RR (sOp (.box 25 (.const p0)) 0) w fun a b=>
 RR (sOp (.alloc 25) 0) b fun b c=>
 RR (sOp (.fieldAddr 25 (.const a) 0) 0) c fun c d=>
 RR (sOp (.load 3 (.const c)) 3) d fun c d=>
 RR (av .eql 3 false true c (.int .i64 1)) d fun c d=>
 CondV c (
 RR (sOp (.fieldAddr 25 (.const a) 1) 0) d fun a c=>
 RR (sOp (.load 3 (.const a)) 3) c fun a c=>
 RR (aF p1 [a]) c fun a c=>
 RR (sOp (.store 25 (.const b) (.const a)) 0) c fun _ a=>
 (a4 Tryz.prog 25 b a fun b=>R (.returned b) a)) (
 RR (sOp (.fieldAddr 25 (.const a) 3) 0) d fun c d=>
 RR (sOp (.load 23 (.const c)) 23) d fun c d=>
 RR (sOp (.fieldAddr 25 (.const a) 3) 0) d fun d e=>
 RR (sOp (.store 23 (.const d) (.const (Value.slice none 0 0))) 0) e fun _ d=>
 RR (aE .len #[23] 3 [false] [c]) d fun d e=>
 (∃ (f:Value->World->Prop) (g:Value->World->Nat),f (.int .i64 0) e/\
 ∀ e _ h i j k l m n o _ _ _ _:Value,∀ p:World,f e p->
 RR (av .lss 3 false false e d) p fun d q=>
 CondV d (
 RR (sOp (.indexAddr 23 (.const c) (.const e)) 0) q fun b c=>
 RR (sOp (.load 25 (.const b)) 25) c fun b c=>
 RR (sOp (.alloc 25) 0) c fun c d=>
 RR (sOp (.store 25 (.const c) (.const b)) 0) d fun _ b=>
 (∃ d:(Nat->Bool)->Value->Value->Value->Value->Value->Value->Value->Value->World->Prop,d (fun _=>false) h i j k l m n o { b with drawn:=b.drawn+1 }/\(
 (∀ b:Nat->Bool,b 0=false->∀ c e f g h i j k l,d b c e f g h i j k l->
 RR (sOp (.fieldAddr 25 (.const a) 3) 0) l fun a k=>
 d (ao b 0) c e f g h i j a k)/\
 (∀ a:Nat->Bool,a 1=false->a 0=true->∀ b c e f g h i j k,d a b c e f g h i j k->
 RR (sOp (.load 23 (.const j)) 23) k fun i k=>
 d (ao a 1) b c e f g h i j k)/\
 (∀ a:Nat->Bool,a 2=false->∀ b e f g h i j k l,d a b e f g h i j k l->
 RR (sOp (.load 25 (.const c)) 25) l fun c i=>
 d (ao a 2) b e f g h c j k i)/\
 (∀ a:Nat->Bool,a 3=false->∀ b c e f g h i j k,d a b c e f g h i j k->
 d (ao a 3) b c e f p1 h i j k)/\
 (∀ a:Nat->Bool,a 4=false->a 2=true->a 3=true->∀ b c e f g h i j k,d a b c e f g h i j k->
 RR (aF (.func (.func 44) #[] #[]) [h,g]) k fun f k=>
 d (ao a 4) b c e f g h i j k)/\
 (∀ a:Nat->Bool,a 5=false->a 4=true->∀ b c e f g h i j k,d a b c e f g h i j k->
 RR (aQ 23 1 [(0,f)]) k fun e k=>
 d (ao a 5) b c e f g h i j k)/\
 (∀ a:Nat->Bool,a 6=false->a 1=true->a 5=true->a 4=true->∀ b c e f g h i j k,d a b c e f g h i j k->
 RR (aE .append #[23,23] 23 [false,false] [i,e]) k fun c k=>
 d (ao a 6) b c e f g h i j k)/\
 (∀ b:Nat->Bool,b 7=false->b 0=true->b 1=true->b 2=true->b 3=true->b 4=true->b 5=true->b 6=true->∀ c e f g h i j k l,d b c e f g h i j k l->
 RR (sOp (.fieldAddr 25 (.const a) 3) 0) l fun a c=>
 d (ao b 7) a e f g h i j k c)/\
 (∀ a:Nat->Bool,a 8=false->a 7=true->a 6=true->a 6=true->a 0=true->a 1=true->a 2=true->a 3=true->a 4=true->a 5=true->a 6=true->∀ b c e f g h i j k,d a b c e f g h i j k->
 RR (sOp (.store 23 (.const b) (.const c)) 0) k fun _ k=>
 d (ao a 8) b c e f g h i j k)/\
 True)/\
 ∀ a:Nat->Bool,a 8=true->a 7=true->a 6=true->a 5=true->a 4=true->a 3=true->a 2=true->a 1=true->a 0=true->∀ b c h i j k l m n,d a b c h i j k l m n->
 RR (av .add 3 false true e (.int .i64 1)) n fun a b=>
 f a b/\g a b<g e p)) (
 RR (sOp (.load 25 (.const a)) 25) q fun a c=>
 RR (sOp (.store 25 (.const b) (.const a)) 0) c fun _ a=>
 (a4 Tryz.prog 25 b a fun b=>R (.returned b) a))))
theorem mH {p0 p1:Value} {w:World} {R:Ending->World->Prop} (h:l6 p0 p1 w R):Calls Tryz.prog 44 #[p0,p1] w R:=
  aK (.seq none .leaf (.seq none .leaf (.seq none .leaf (.seq none .leaf (.seq none (.seq none .leaf (.one (.loop [20] .leaf))) .leaf))))) [p0,p1] bp Tryz.func44 (by kernel_rfl) (by kernel_rfl) h


/- (*loop.example/prologserver/impl.store).resolve : function 45 -/
def jM (p0 p1:Value) (w:World) (R:Ending->World->Prop):Prop:=
 RR (sOp (.box 25 (.const p1)) 0) w fun a b=>
 RR (sOp (.alloc 25) 0) b fun b c=>
 RR (sOp (.alloc 3) 0) c fun c d=>
 RR (sOp (.store 3 (.const c) (.const (.int .i64 0))) 0) d fun _ d=>
 RR (sOp (.load 25 (.const a)) 25) d fun a d=>
 RR (aF (.func (.func 74) #[] #[]) [p0,a,(.int .i64 1),c]) d fun a c=>
 RR (sOp (.extract (.const a) 0) 25) c fun c d=>
 RR (sOp (.extract (.const a) 1) 4) d fun a d=>
 RR (sOp (.store 25 (.const b) (.const c)) 0) d fun _ c=>
 (a4 Tryz.prog 25 b c fun b=>R (.returned (.tuple #[b,a])) c)
theorem mM {p0 p1:Value} {w:World} {R:Ending->World->Prop} (h:jM p0 p1 w R):Calls Tryz.prog 45 #[p0,p1] w R:=
  aK .leaf [p0,p1] bp Tryz.func45 (by kernel_rfl) (by kernel_rfl) h


/- loop.example/prologserver/spec.GoalValid : function 46 -/
def ow (p0:Value) (w:World) (R:Ending->World->Prop):Prop:=
 RR (sOp (.box 25 (.const p0)) 0) w fun a b=>
 RR (sOp (.load 25 (.const a)) 25) b fun b c=>
 RR (aF (.func (.func 47) #[] #[]) [b]) c fun b c=>
 ai b true (
 RR (sOp (.load 25 (.const a)) 25) c fun a c=>
 RR (aF (.func (.func 75) #[] #[]) [a]) c fun a c=>
 RR (sOp (.pick (.const b) (.const a) (.const (.bool false))) 4) c fun a b=>
 R (.returned a) b) (
 RR (sOp (.pick (.const b) (.const undef) (.const (.bool false))) 4) c fun a b=>
 R (.returned a) b)
theorem rp {p0:Value} {w:World} {R:Ending->World->Prop} (h:ow p0 w R):Calls Tryz.prog 46 #[p0] w R:=
  aK .leaf [p0] bp Tryz.func46 (by kernel_rfl) (by kernel_rfl) h


/- loop.example/prologserver/spec.TermValid : function 47 -/
def n7 (p0:Value) (w:World) (R:Ending->World->Prop):Prop:=
 RR (sOp (.box 25 (.const p0)) 0) w fun a b=>
 RR (sOp (.load 25 (.const a)) 25) b fun b c=>
 RR (aF (.func (.func 76) #[] #[]) [b,(.int .i64 30)]) c fun b c=>
 ai b true (
 RR (sOp (.load 25 (.const a)) 25) c fun a c=>
 RR (aF (.func (.func 77) #[] #[]) [a,(.int .i64 120)]) c fun a c=>
 RR (av .leq 3 false true a (.int .i64 120)) c fun a c=>
 RR (sOp (.pick (.const b) (.const a) (.const (.bool false))) 4) c fun a b=>
 R (.returned a) b) (
 RR (sOp (.pick (.const b) (.const undef) (.const (.bool false))) 4) c fun a b=>
 R (.returned a) b)
theorem qW {p0:Value} {w:World} {R:Ending->World->Prop} (h:n7 p0 w R):Calls Tryz.prog 47 #[p0] w R:=
  aK .leaf [p0] bp Tryz.func47 (by kernel_rfl) (by kernel_rfl) h


/- loop.example/prologserver/spec.l4Plain : function 48 -/
def sW (p0:Value) (w:World) (R:Ending->World->Prop):Prop:=
 RR (sOp (.box 25 (.const p0)) 0) w fun a b=>
 RR (sOp (.fieldAddr 25 (.const a) 0) 0) b fun b c=>
 RR (sOp (.load 3 (.const b)) 3) c fun b c=>
 RR (av .eql 3 false true b (.int .i64 3)) c fun b c=>
 ((fun d:VW=>ai b true (
 RR (sOp (.fieldAddr 25 (.const a) 2) 0) c fun a c=>
 RR (sOp (.load 9 (.const a)) 9) c fun a c=>
 RR (aF (.func (.func 78) #[] #[]) [a]) c fun a c=>
 RR (sOp (.pick (.const b) (.const a) (.const (.bool false))) 4) c fun a b=>d a b) (
 RR (sOp (.pick (.const b) (.const undef) (.const (.bool false))) 4) c fun a b=>d a b)) fun b c=>
 ((fun d:VW=>ai b true (
 RR (sOp (.fieldAddr 25 (.const a) 2) 0) c fun c e=>
 RR (sOp (.load 9 (.const c)) 9) e fun c e=>
 RR (sOp (.fieldAddr 25 (.const a) 3) 0) e fun a e=>
 RR (sOp (.load 23 (.const a)) 23) e fun a e=>
 RR (aE .len #[23] 3 [false] [a]) e fun a e=>
 RR (aF (.func (.func 79) #[] #[]) [c,a]) e fun a c=>
 RR (sOp (.unOp .not 4 (.const a)) 4) c fun a c=>
 RR (sOp (.pick (.const b) (.const a) (.const (.bool false))) 4) c fun a b=>d a b) (
 RR (sOp (.pick (.const b) (.const undef) (.const (.bool false))) 4) c fun a b=>d a b)) fun b c=>
 ai b true (
 RR (sOp (.fieldAddr 25 (.const a) 2) 0) c fun a c=>
 RR (sOp (.load 9 (.const a)) 9) c fun a c=>
 RR (aF (.func (.func 80) #[] #[]) [a]) c fun a c=>
 RR (av .eql 3 false true a (.int .i64 0)) c fun a c=>
 RR (sOp (.pick (.const b) (.const a) (.const (.bool false))) 4) c fun a b=>
 R (.returned a) b) (
 RR (sOp (.pick (.const b) (.const undef) (.const (.bool false))) 4) c fun a b=>
 R (.returned a) b)))
theorem wY {p0:Value} {w:World} {R:Ending->World->Prop} (h:sW p0 w R):Calls Tryz.prog 48 #[p0] w R:=
  aK .leaf [p0] bp Tryz.func48 (by kernel_rfl) (by kernel_rfl) h


/- loop.example/prologserver/spec.l15Fresh : function 49 -/
def pS (p0 p1:Value) (w:World) (R:Ending->World->Prop):Prop:=
 RR (sOp (.box 27 (.const p0)) 0) w fun a b=>
 RR (sOp (.alloc 27) 0) b fun b c=>
 RR (sOp (.fieldAddr 27 (.const a) 0) 0) c fun c d=>
 RR (sOp (.load 25 (.const c)) 25) d fun c d=>
 RR (aF (.func (.func 81) #[] #[]) [c,p1]) d fun c d=>
 RR (bP 27 [(0,c)]) d fun c d=>
 RR (sOp (.alloc 27) 0) d fun d e=>
 RR (sOp (.store 27 (.const d) (.const c)) 0) e fun _ c=>
 (∃ (e:Value->World->Prop) (f:Value->World->Nat),e (.int .i64 0) c/\
 ∀ c _ _ g h i j k l m n o p q r _ _ _ _ _:Value,∀ s:World,e c s->
 RR (sOp (.fieldAddr 27 (.const a) 1) 0) s fun t u=>
 RR (sOp (.load 23 (.const t)) 23) u fun t u=>
 RR (aE .len #[23] 3 [false] [t]) u fun t u=>
 RR (av .lss 3 false false c t) u fun t u=>
 CondV t (
 (∃ b:(Nat->Bool)->Value->Value->Value->Value->Value->Value->Value->Value->Value->Value->Value->Value->World->Prop,b (fun _=>false) g h i j k l m n o p q r { u with drawn:=u.drawn+1 }/\(
 (∀ a:Nat->Bool,a 0=false->∀ c e f g h i j k l m n o p,b a c e f g h i j k l m n o p->
 RR (sOp (.fieldAddr 27 (.const d) 1) 0) p fun d o=>
 b (ao a 0) c e f g h i j k l m n d o)/\
 (∀ a:Nat->Bool,a 1=false->a 0=true->∀ c d e f g h i j k l m n o,b a c d e f g h i j k l m n o->
 RR (sOp (.load 23 (.const n)) 23) o fun m o=>
 b (ao a 1) c d e f g h i j k l m n o)/\
 (∀ c:Nat->Bool,c 2=false->∀ d e f g h i j k l m n o p,b c d e f g h i j k l m n o p->
 RR (sOp (.fieldAddr 27 (.const a) 1) 0) p fun a m=>
 b (ao c 2) d e f g h i j k l a n o m)/\
 (∀ a:Nat->Bool,a 3=false->a 2=true->∀ c d e f g h i j k l m n o,b a c d e f g h i j k l m n o->
 RR (sOp (.load 23 (.const l)) 23) o fun k o=>
 b (ao a 3) c d e f g h i j k l m n o)/\
 (∀ a:Nat->Bool,a 4=false->∀ d e f g h i j k l m n o p,b a d e f g h i j k l m n o p->
 b (ao a 4) d e f g h i j c l m n o p)/\
 (∀ a:Nat->Bool,a 5=false->a 3=true->a 4=true->∀ c d e f g h i j k l m n o,b a c d e f g h i j k l m n o->
 RR (sOp (.indexAddr 23 (.const k) (.const j)) 0) o fun i o=>
 b (ao a 5) c d e f g h i j k l m n o)/\
 (∀ a:Nat->Bool,a 6=false->a 5=true->∀ c d e f g h i j k l m n o,b a c d e f g h i j k l m n o->
 RR (sOp (.load 25 (.const i)) 25) o fun h o=>
 b (ao a 6) c d e f g h i j k l m n o)/\
 (∀ a:Nat->Bool,a 7=false->∀ c d e f g h i j k l m n o,b a c d e f g h i j k l m n o->
 b (ao a 7) c d e f p1 h i j k l m n o)/\
 (∀ a:Nat->Bool,a 8=false->a 6=true->a 7=true->∀ c d e f g h i j k l m n o,b a c d e f g h i j k l m n o->
 RR (aF (.func (.func 81) #[] #[]) [h,g]) o fun f o=>
 b (ao a 8) c d e f g h i j k l m n o)/\
 (∀ a:Nat->Bool,a 9=false->a 8=true->∀ c d e f g h i j k l m n o,b a c d e f g h i j k l m n o->
 RR (aQ 23 1 [(0,f)]) o fun e o=>
 b (ao a 9) c d e f g h i j k l m n o)/\
 (∀ a:Nat->Bool,a 10=false->a 1=true->a 9=true->a 8=true->∀ c d e f g h i j k l m n o,b a c d e f g h i j k l m n o->
 RR (aE .append #[23,23] 23 [false,false] [m,e]) o fun d o=>
 b (ao a 10) c d e f g h i j k l m n o)/\
 (∀ a:Nat->Bool,a 11=false->a 0=true->a 1=true->a 2=true->a 3=true->a 4=true->a 5=true->a 6=true->a 7=true->a 8=true->a 9=true->a 10=true->∀ c e f g h i j k l m n o p,b a c e f g h i j k l m n o p->
 RR (sOp (.fieldAddr 27 (.const d) 1) 0) p fun c d=>
 b (ao a 11) c e f g h i j k l m n o d)/\
 (∀ a:Nat->Bool,a 12=false->a 11=true->a 10=true->a 10=true->a 0=true->a 1=true->a 2=true->a 3=true->a 4=true->a 5=true->a 6=true->a 7=true->a 8=true->a 9=true->a 10=true->∀ c d e f g h i j k l m n o,b a c d e f g h i j k l m n o->
 RR (sOp (.store 23 (.const c) (.const d)) 0) o fun _ o=>
 b (ao a 12) c d e f g h i j k l m n o)/\
 True)/\
 ∀ a:Nat->Bool,a 12=true->a 11=true->a 10=true->a 9=true->a 8=true->a 7=true->a 6=true->a 5=true->a 4=true->a 3=true->a 2=true->a 1=true->a 0=true->∀ d g h i j k l m n o p q r,b a d g h i j k l m n o p q r->
 RR (av .add 3 false true c (.int .i64 1)) r fun a b=>
 e a b/\f a b<f c s)) (
 RR (sOp (.load 27 (.const d)) 27) u fun a c=>
 RR (sOp (.store 27 (.const b) (.const a)) 0) c fun _ a=>
 (a4 Tryz.prog 27 b a fun b=>R (.returned b) a)))
theorem tJ {p0 p1:Value} {w:World} {R:Ending->World->Prop} (h:pS p0 p1 w R):Calls Tryz.prog 49 #[p0,p1] w R:=
  aK (.seq none .leaf (.seq none .leaf (.seq none (.seq none .leaf (.one (.loop [6] .leaf))) .leaf))) [p0,p1] bp Tryz.func49 (by kernel_rfl) (by kernel_rfl) h


/- loop.example/prologserver/spec.l3Unify : function 50 -/
def tc (p0 p1 p2:Value) (w:World) (R:Ending->World->Prop):Prop:=
 RR (sOp (.box 25 (.const p0)) 0) w fun a b=>
 RR (sOp (.box 25 (.const p1)) 0) b fun b c=>
 RR (sOp (.load 25 (.const a)) 25) c fun c d=>
 RR (aF (.func (.func 82) #[] #[]) [c,p2]) d fun c d=>
 RR (sOp (.store 25 (.const a) (.const c)) 0) d fun _ c=>
 RR (sOp (.load 25 (.const b)) 25) c fun c d=>
 RR (aF (.func (.func 82) #[] #[]) [c,p2]) d fun c d=>
 RR (sOp (.store 25 (.const b) (.const c)) 0) d fun _ c=>
 (∃ d:Value->World->Prop,(
 RR (sOp (.fieldAddr 25 (.const a) 0) 0) c fun c e=>
 RR (sOp (.load 3 (.const c)) 3) e fun c e=>
 RR (av .eql 3 false true c (.int .i64 1)) e fun c e=>
 ((fun a:VW=>ai c true (
 RR (sOp (.fieldAddr 25 (.const b) 0) 0) e fun b d=>
 RR (sOp (.load 3 (.const b)) 3) d fun b d=>
 RR (av .eql 3 false true b (.int .i64 1)) d fun b d=>
 RR (sOp (.pick (.const c) (.const b) (.const (.bool false))) 4) d fun b c=>a b c) (
 RR (sOp (.pick (.const c) (.const undef) (.const (.bool false))) 4) e fun b c=>a b c)) fun c e=>
 ai c true (
 RR (sOp (.fieldAddr 25 (.const a) 1) 0) e fun a e=>
 RR (sOp (.load 3 (.const a)) 3) e fun a e=>
 RR (sOp (.fieldAddr 25 (.const b) 1) 0) e fun b e=>
 RR (sOp (.load 3 (.const b)) 3) e fun b e=>
 RR (av .eql 3 false false a b) e fun a b=>
 RR (sOp (.pick (.const c) (.const a) (.const (.bool false))) 4) b fun a b=>
 d a b) (
 RR (sOp (.pick (.const c) (.const undef) (.const (.bool false))) 4) e fun a b=>
 d a b)))/\
 ∀ c _ _ _ _ _ _ _ _ _ _ _ _ _ _:Value,∀ e:World,d c e->
 CondV c (
 R (.returned (.bool true)) e) (
 RR (sOp (.fieldAddr 25 (.const a) 0) 0) e fun c d=>
 RR (sOp (.load 3 (.const c)) 3) d fun c d=>
 RR (av .eql 3 false true c (.int .i64 1)) d fun c d=>
 CondV c (
 RR (sOp (.fieldAddr 25 (.const a) 1) 0) d fun c d=>
 RR (sOp (.load 3 (.const c)) 3) d fun c d=>
 RR (sOp (.load 25 (.const b)) 25) d fun d e=>
 RR (aF (.func (.func 83) #[] #[]) [c,d,p2]) e fun c d=>
 CondV c (
 R (.returned (.bool false)) d) (
 RR (sOp (.fieldAddr 25 (.const a) 1) 0) d fun a c=>
 RR (sOp (.load 3 (.const a)) 3) c fun a c=>
 RR (sOp (.load 25 (.const b)) 25) c fun b c=>
 RR (sOp (.indexAddr 23 (.const p2) (.const a)) 0) c fun a c=>
 RR (sOp (.store 25 (.const a) (.const b)) 0) c fun _ a=>
 R (.returned (.bool true)) a)) (
 RR (sOp (.fieldAddr 25 (.const b) 0) 0) d fun c d=>
 RR (sOp (.load 3 (.const c)) 3) d fun c d=>
 RR (av .eql 3 false true c (.int .i64 1)) d fun c d=>
 CondV c (
 RR (sOp (.load 25 (.const b)) 25) d fun b c=>
 RR (sOp (.load 25 (.const a)) 25) c fun a c=>
 RR (aF (.func (.func 50) #[] #[]) [b,a,p2]) c fun a b=>
 R (.returned a) b) (
 (∃ c:Value->World->Prop,(
 RR (sOp (.fieldAddr 25 (.const a) 0) 0) d fun d e=>
 RR (sOp (.load 3 (.const d)) 3) e fun d e=>
 RR (sOp (.fieldAddr 25 (.const b) 0) 0) e fun e f=>
 RR (sOp (.load 3 (.const e)) 3) f fun e f=>
 RR (av .neq 3 false false d e) f fun d e=>
 ((fun c:VW=>ai d false (
 RR (sOp (.fieldAddr 25 (.const a) 1) 0) e fun a e=>
 RR (sOp (.load 3 (.const a)) 3) e fun a e=>
 RR (sOp (.fieldAddr 25 (.const b) 1) 0) e fun b e=>
 RR (sOp (.load 3 (.const b)) 3) e fun b e=>
 RR (av .neq 3 false false a b) e fun a b=>
 RR (sOp (.pick (.const d) (.const (.bool true)) (.const a)) 4) b fun a b=>c a b) (
 RR (sOp (.pick (.const d) (.const (.bool true)) (.const undef)) 4) e fun a b=>c a b)) fun d e=>
 ((fun c:VW=>ai d false (
 RR (sOp (.fieldAddr 25 (.const a) 2) 0) e fun a e=>
 RR (sOp (.load 9 (.const a)) 9) e fun a e=>
 RR (sOp (.fieldAddr 25 (.const b) 2) 0) e fun b e=>
 RR (sOp (.load 9 (.const b)) 9) e fun b e=>
 RR (av .neq 9 false false a b) e fun a b=>
 RR (sOp (.pick (.const d) (.const (.bool true)) (.const a)) 4) b fun a b=>c a b) (
 RR (sOp (.pick (.const d) (.const (.bool true)) (.const undef)) 4) e fun a b=>c a b)) fun d e=>
 ai d false (
 RR (sOp (.fieldAddr 25 (.const a) 3) 0) e fun a e=>
 RR (sOp (.load 23 (.const a)) 23) e fun a e=>
 RR (aE .len #[23] 3 [false] [a]) e fun a e=>
 RR (sOp (.fieldAddr 25 (.const b) 3) 0) e fun b e=>
 RR (sOp (.load 23 (.const b)) 23) e fun b e=>
 RR (aE .len #[23] 3 [false] [b]) e fun b e=>
 RR (av .neq 3 false false a b) e fun a b=>
 RR (sOp (.pick (.const d) (.const (.bool true)) (.const a)) 4) b fun a b=>
 c a b) (
 RR (sOp (.pick (.const d) (.const (.bool true)) (.const undef)) 4) e fun a b=>
 c a b))))/\
 ∀ d _ _ _ _ _ _ _ _ _ _ _ _ _ _ _ _ _ _ _ _ _ _ _ _ _ _ _:Value,∀ e:World,c d e->
 CondV d (
 R (.returned (.bool false)) e) (
 (∃ (c:Value->World->Prop) (d:Value->World->Nat),c (.int .i64 0) e/\
 ∀ e _ _ _ f g h i j k l m n o p q r _ _ _ _ _:Value,∀ s:World,c e s->
 RR (sOp (.fieldAddr 25 (.const a) 3) 0) s fun t u=>
 RR (sOp (.load 23 (.const t)) 23) u fun t u=>
 RR (aE .len #[23] 3 [false] [t]) u fun t u=>
 RR (av .lss 3 false false e t) u fun t u=>
 CondV t (
 (∃ t:(Nat->Bool)->Value->Value->Value->Value->Value->Value->Value->Value->Value->Value->Value->Value->Value->World->Prop,t (fun _=>false) f g h i j k l m n o p q r { u with drawn:=u.drawn+1 }/\(
 (∀ b:Nat->Bool,b 0=false->∀ c d e f g h i j k l m n o p,t b c d e f g h i j k l m n o p->
 RR (sOp (.fieldAddr 25 (.const a) 3) 0) p fun a o=>
 t (ao b 0) c d e f g h i j k l m n a o)/\
 (∀ a:Nat->Bool,a 1=false->a 0=true->∀ b c d e f g h i j k l m n o,t a b c d e f g h i j k l m n o->
 RR (sOp (.load 23 (.const n)) 23) o fun m o=>
 t (ao a 1) b c d e f g h i j k l m n o)/\
 (∀ a:Nat->Bool,a 2=false->∀ b c d f g h i j k l m n o p,t a b c d f g h i j k l m n o p->
 t (ao a 2) b c d f g h i j k l e n o p)/\
 (∀ a:Nat->Bool,a 3=false->a 1=true->a 2=true->∀ b c d e f g h i j k l m n o,t a b c d e f g h i j k l m n o->
 RR (sOp (.indexAddr 23 (.const m) (.const l)) 0) o fun k o=>
 t (ao a 3) b c d e f g h i j k l m n o)/\
 (∀ a:Nat->Bool,a 4=false->a 3=true->∀ b c d e f g h i j k l m n o,t a b c d e f g h i j k l m n o->
 RR (sOp (.load 25 (.const k)) 25) o fun j o=>
 t (ao a 4) b c d e f g h i j k l m n o)/\
 (∀ a:Nat->Bool,a 5=false->∀ c d e f g h i j k l m n o p,t a c d e f g h i j k l m n o p->
 RR (sOp (.fieldAddr 25 (.const b) 3) 0) p fun b j=>
 t (ao a 5) c d e f g h i b k l m n o j)/\
 (∀ a:Nat->Bool,a 6=false->a 5=true->∀ b c d e f g h i j k l m n o,t a b c d e f g h i j k l m n o->
 RR (sOp (.load 23 (.const i)) 23) o fun h o=>
 t (ao a 6) b c d e f g h i j k l m n o)/\
 (∀ a:Nat->Bool,a 7=false->∀ b c d f g h i j k l m n o p,t a b c d f g h i j k l m n o p->
 t (ao a 7) b c d f g e i j k l m n o p)/\
 (∀ a:Nat->Bool,a 8=false->a 6=true->a 7=true->∀ b c d e f g h i j k l m n o,t a b c d e f g h i j k l m n o->
 RR (sOp (.indexAddr 23 (.const h) (.const g)) 0) o fun f o=>
 t (ao a 8) b c d e f g h i j k l m n o)/\
 (∀ a:Nat->Bool,a 9=false->a 8=true->∀ b c d e f g h i j k l m n o,t a b c d e f g h i j k l m n o->
 RR (sOp (.load 25 (.const f)) 25) o fun e o=>
 t (ao a 9) b c d e f g h i j k l m n o)/\
 (∀ a:Nat->Bool,a 10=false->∀ b c d e f g h i j k l m n o,t a b c d e f g h i j k l m n o->
 t (ao a 10) b c p2 e f g h i j k l m n o)/\
 (∀ a:Nat->Bool,a 11=false->a 4=true->a 9=true->a 10=true->∀ b c d e f g h i j k l m n o,t a b c d e f g h i j k l m n o->
 RR (aF (.func (.func 50) #[] #[]) [j,e,d]) o fun c o=>
 t (ao a 11) b c d e f g h i j k l m n o)/\
 (∀ a:Nat->Bool,a 12=false->a 11=true->∀ b c d e f g h i j k l m n o,t a b c d e f g h i j k l m n o->
 RR (sOp (.unOp .not 4 (.const c)) 4) o fun b o=>
 t (ao a 12) b c d e f g h i j k l m n o)/\
 True)/\
 ∀ a:Nat->Bool,a 12=true->a 11=true->a 10=true->a 9=true->a 8=true->a 7=true->a 6=true->a 5=true->a 4=true->a 3=true->a 2=true->a 1=true->a 0=true->∀ b f g h i j k l m n o p q r,t a b f g h i j k l m n o p q r->
 CondV b (
 R (.returned (.bool false)) r) (
 RR (av .add 3 false true e (.int .i64 1)) r fun a b=>
 c a b/\d a b<d e s))) (
 R (.returned (.bool true)) u))))))))
theorem xb {p0 p1 p2:Value} {w:World} {R:Ending->World->Prop} (h:tc p0 p1 p2 w R):Calls Tryz.prog 50 #[p0,p1,p2] w R:=
  aK (.seq none .leaf (.seq none .leaf (.seq none .leaf (.seq none (.seq (some [28]) .leaf .leaf) (.seq none .leaf (.seq none .leaf (.seq none (.seq (some [76]) .leaf .leaf) (.seq none (.seq none .leaf (.one (.loop [7] .leaf))) .leaf)))))))) [p0,p1,p2] bp Tryz.func50 (by kernel_rfl) (by kernel_rfl) h


/- loop.example/prologserver/spec.l6Small : function 51 -/
def tb (p0 p1:Value) (w:World) (R:Ending->World->Prop):Prop:=
 RR (sOp (.box 25 (.const p0)) 0) w fun a b=>
 RR (sOp (.alloc 25) 0) b fun b c=>
 RR (sOp (.load 25 (.const a)) 25) c fun a c=>
 RR (aF (.func (.func 84) #[] #[]) [a,p1,(.int .i64 120)]) c fun a c=>
 RR (sOp (.extract (.const a) 0) 25) c fun c d=>
 RR (sOp (.extract (.const a) 1) 3) d fun a d=>
 RR (sOp (.alloc 25) 0) d fun d e=>
 RR (sOp (.store 25 (.const d) (.const c)) 0) e fun _ c=>
 (∃ e:(Nat->Bool)->Value->Value->Value->Value->Value->Value->Value->Value->World->Prop,e (fun _=>false) (.bool false) undef undef undef undef undef undef undef { c with drawn:=c.drawn+1 }/\(
 (∀ a:Nat->Bool,a 0=false->∀ b c f g h i j k l,e a b c f g h i j k l->
 RR (sOp (.load 25 (.const d)) 25) l fun d k=>
 e (ao a 0) b c f g h i j d k)/\
 (∀ b:Nat->Bool,b 1=false->∀ c d f g h i j k l,e b c d f g h i j k l->
 e (ao b 1) c d f g h i a k l)/\
 (∀ a:Nat->Bool,a 2=false->a 1=true->∀ b c d f g h i j k,e a b c d f g h i j k->
 RR (av .geq 3 false true i (.int .i64 0)) k fun h k=>
 e (ao a 2) b c d f g h i j k)/\
 (∀ a:Nat->Bool,a 3=false->a 2=true->∀ b c d f g h i j k,e a b c d f g h i j k->
 e (ao a 3) b c d f h h i j k)/\
 (∀ a:Nat->Bool,a 4=false->a 3=true->∀ b c f g h i j k l,e a b c f g h i j k l->
 ai h true (RR (sOp (.load 25 (.const d)) 25) l fun d g=>
 e (ao a 4) b c f d h i j k g) (e (ao a 4) b c f undef h i j k l))/\
 (∀ a:Nat->Bool,a 5=false->a 4=true->a 3=true->a 3=true->∀ b c d f g h i j k,e a b c d f g h i j k->
 ai g true (RR (aF (.func (.func 85) #[] #[]) [f,(.int .i64 30)]) k fun d k=>
 e (ao a 5) b c d f g h i j k) (e (ao a 5) b c undef f g h i j k))/\
 (∀ a:Nat->Bool,a 6=false->a 3=true->a 5=true->∀ b c d f g h i j k,e a b c d f g h i j k->
 RR (sOp (.pick (.const g) (.const d) (.const (.bool false))) 4) k fun c k=>
 e (ao a 6) b c d f g h i j k)/\
 (∀ a:Nat->Bool,a 7=false->a 0=true->a 5=true->a 0=true->∀ c d f g h i j k l,e a c d f g h i j k l->
 RR (sOp (.store 25 (.const b) (.const k)) 0) l fun _ b=>
 e (ao a 7) c d f g h i j k b)/\
 (∀ a:Nat->Bool,a 8=false->a 6=true->a 7=true->a 0=true->a 1=true->a 2=true->a 3=true->a 4=true->a 5=true->a 6=true->a 7=true->∀ b c d f g h i j k,e a b c d f g h i j k->
 e (ao a 8) c c d f g h i j k)/\
 True)/\
 ∀ a:Nat->Bool,a 8=true->a 7=true->a 6=true->a 5=true->a 4=true->a 3=true->a 2=true->a 1=true->a 0=true->∀ c d f g h i j k l,e a c d f g h i j k l->
 (a4 Tryz.prog 25 b l fun a=>R (.returned (.tuple #[a,c])) l))
theorem wE {p0 p1:Value} {w:World} {R:Ending->World->Prop} (h:tb p0 p1 w R):Calls Tryz.prog 51 #[p0,p1] w R:=
  aK .leaf [p0,p1] bp Tryz.func51 (by kernel_rfl) (by kernel_rfl) h


/- loop.example/prologserver/spec.l1Renumber : function 52 -/
def mj (p0:Value) (w:World) (R:Ending->World->Prop):Prop:=
 RR (aQ 85 0 []) w fun a b=>
 (∃ (c:Value->Value->World->Prop) (d:Value->Value->World->Nat),c (.int .i64 0) a b/\
 ∀ a _ _ b _ _ _ _ _ _ _ _ _ _:Value,∀ e:World,c a b e->
 RR (aE .len #[23] 3 [false] [p0]) e fun f g=>
 RR (av .lss 3 false false a f) g fun f g=>
 CondV f (
 RR (sOp (.indexAddr 23 (.const p0) (.const a)) 0) g fun f g=>
 RR (sOp (.load 25 (.const f)) 25) g fun f g=>
 RR (aF (.func (.func 86) #[] #[]) [b,f]) g fun f g=>
 RR (av .add 3 false true a (.int .i64 1)) g fun g h=>
 c g f h/\d g f h<d a b e) (
 RR (aQ 23 0 []) g fun a c=>
 (∃ (d:Value->Value->World->Prop) (e:Value->Value->World->Nat),d (.int .i64 0) a c/\
 ∀ a _ _ c _ _ _ _ _ _ _ _ _ _ _ _ _:Value,∀ f:World,d a c f->
 RR (aE .len #[23] 3 [false] [p0]) f fun g h=>
 RR (av .lss 3 false false a g) h fun g h=>
 CondV g (
 RR (sOp (.indexAddr 23 (.const p0) (.const a)) 0) h fun g h=>
 RR (sOp (.load 25 (.const g)) 25) h fun g h=>
 RR (aF (.func (.func 87) #[] #[]) [g,b]) h fun b g=>
 RR (aQ 23 1 [(0,b)]) g fun b g=>
 RR (aE .append #[23,23] 23 [false,false] [c,b]) g fun b g=>
 RR (av .add 3 false true a (.int .i64 1)) g fun g h=>
 d g b h/\e g b h<e a c f) (
 R (.returned c) h))))
theorem qz {p0:Value} {w:World} {R:Ending->World->Prop} (h:mj p0 w R):Calls Tryz.prog 52 #[p0] w R:=
  aK (.seq none .leaf (.seq none .leaf (.seq none (.seq none .leaf (.one (.loop [4,3] .leaf))) (.seq none .leaf (.seq none (.seq none .leaf (.one (.loop [6,5] .leaf))) .leaf))))) [p0] bp Tryz.func52 (by kernel_rfl) (by kernel_rfl) h


/- loop.example/prologserver/spec.l1Copy : function 53 -/
def ot (p0:Value) (w:World) (R:Ending->World->Prop):Prop:=
 RR (sOp (.box 25 (.const p0)) 0) w fun a b=>
 RR (sOp (.alloc 25) 0) b fun b c=>
 RR (sOp (.fieldAddr 25 (.const a) 0) 0) c fun c d=>
 RR (sOp (.load 3 (.const c)) 3) d fun c d=>
 RR (sOp (.fieldAddr 25 (.const a) 1) 0) d fun d e=>
 RR (sOp (.load 3 (.const d)) 3) e fun d e=>
 RR (sOp (.fieldAddr 25 (.const a) 2) 0) e fun e f=>
 RR (sOp (.load 9 (.const e)) 9) f fun e f=>
 RR (bP 25 [(0,c),(1,d),(2,e)]) f fun c d=>
 RR (sOp (.alloc 25) 0) d fun d e=>
 RR (sOp (.store 25 (.const d) (.const c)) 0) e fun _ c=>
 (∃ (e:Value->World->Prop) (f:Value->World->Nat),e (.int .i64 0) c/\
 ∀ c _ _ g h i j k l m n o p q _ _ _ _ _:Value,∀ r:World,e c r->
 RR (sOp (.fieldAddr 25 (.const a) 3) 0) r fun s t=>
 RR (sOp (.load 23 (.const s)) 23) t fun s t=>
 RR (aE .len #[23] 3 [false] [s]) t fun s t=>
 RR (av .lss 3 false false c s) t fun s t=>
 CondV s (
 (∃ b:(Nat->Bool)->Value->Value->Value->Value->Value->Value->Value->Value->Value->Value->Value->World->Prop,b (fun _=>false) g h i j k l m n o p q { t with drawn:=t.drawn+1 }/\(
 (∀ a:Nat->Bool,a 0=false->∀ c e f g h i j k l m n o,b a c e f g h i j k l m n o->
 RR (sOp (.fieldAddr 25 (.const d) 3) 0) o fun d n=>
 b (ao a 0) c e f g h i j k l m d n)/\
 (∀ a:Nat->Bool,a 1=false->a 0=true->∀ c d e f g h i j k l m n,b a c d e f g h i j k l m n->
 RR (sOp (.load 23 (.const m)) 23) n fun l n=>
 b (ao a 1) c d e f g h i j k l m n)/\
 (∀ c:Nat->Bool,c 2=false->∀ d e f g h i j k l m n o,b c d e f g h i j k l m n o->
 RR (sOp (.fieldAddr 25 (.const a) 3) 0) o fun a l=>
 b (ao c 2) d e f g h i j k a m n l)/\
 (∀ a:Nat->Bool,a 3=false->a 2=true->∀ c d e f g h i j k l m n,b a c d e f g h i j k l m n->
 RR (sOp (.load 23 (.const k)) 23) n fun j n=>
 b (ao a 3) c d e f g h i j k l m n)/\
 (∀ a:Nat->Bool,a 4=false->∀ d e f g h i j k l m n o,b a d e f g h i j k l m n o->
 b (ao a 4) d e f g h i c k l m n o)/\
 (∀ a:Nat->Bool,a 5=false->a 3=true->a 4=true->∀ c d e f g h i j k l m n,b a c d e f g h i j k l m n->
 RR (sOp (.indexAddr 23 (.const j) (.const i)) 0) n fun h n=>
 b (ao a 5) c d e f g h i j k l m n)/\
 (∀ a:Nat->Bool,a 6=false->a 5=true->∀ c d e f g h i j k l m n,b a c d e f g h i j k l m n->
 RR (sOp (.load 25 (.const h)) 25) n fun g n=>
 b (ao a 6) c d e f g h i j k l m n)/\
 (∀ a:Nat->Bool,a 7=false->a 6=true->∀ c d e f g h i j k l m n,b a c d e f g h i j k l m n->
 RR (aF (.func (.func 53) #[] #[]) [g]) n fun f n=>
 b (ao a 7) c d e f g h i j k l m n)/\
 (∀ a:Nat->Bool,a 8=false->a 7=true->∀ c d e f g h i j k l m n,b a c d e f g h i j k l m n->
 RR (aQ 23 1 [(0,f)]) n fun e n=>
 b (ao a 8) c d e f g h i j k l m n)/\
 (∀ a:Nat->Bool,a 9=false->a 1=true->a 8=true->a 7=true->∀ c d e f g h i j k l m n,b a c d e f g h i j k l m n->
 RR (aE .append #[23,23] 23 [false,false] [l,e]) n fun d n=>
 b (ao a 9) c d e f g h i j k l m n)/\
 (∀ a:Nat->Bool,a 10=false->a 0=true->a 1=true->a 2=true->a 3=true->a 4=true->a 5=true->a 6=true->a 7=true->a 8=true->a 9=true->∀ c e f g h i j k l m n o,b a c e f g h i j k l m n o->
 RR (sOp (.fieldAddr 25 (.const d) 3) 0) o fun c d=>
 b (ao a 10) c e f g h i j k l m n d)/\
 (∀ a:Nat->Bool,a 11=false->a 10=true->a 9=true->a 9=true->a 0=true->a 1=true->a 2=true->a 3=true->a 4=true->a 5=true->a 6=true->a 7=true->a 8=true->a 9=true->∀ c d e f g h i j k l m n,b a c d e f g h i j k l m n->
 RR (sOp (.store 23 (.const c) (.const d)) 0) n fun _ n=>
 b (ao a 11) c d e f g h i j k l m n)/\
 True)/\
 ∀ a:Nat->Bool,a 11=true->a 10=true->a 9=true->a 8=true->a 7=true->a 6=true->a 5=true->a 4=true->a 3=true->a 2=true->a 1=true->a 0=true->∀ d g h i j k l m n o p q,b a d g h i j k l m n o p q->
 RR (av .add 3 false true c (.int .i64 1)) q fun a b=>
 e a b/\f a b<f c r)) (
 RR (sOp (.load 25 (.const d)) 25) t fun a c=>
 RR (sOp (.store 25 (.const b) (.const a)) 0) c fun _ a=>
 (a4 Tryz.prog 25 b a fun b=>R (.returned b) a)))
theorem n5 {p0:Value} {w:World} {R:Ending->World->Prop} (h:ot p0 w R):Calls Tryz.prog 53 #[p0] w R:=
  aK (.seq none .leaf (.seq none .leaf (.seq none (.seq none .leaf (.one (.loop [4] .leaf))) .leaf))) [p0] bp Tryz.func53 (by kernel_rfl) (by kernel_rfl) h


/- loop.example/prologserver/impl.scan : function 54 -/
def Bj (p0 p1 p2:Value) (w:World) (R:Ending->World->Prop):Prop:=
 RR (sOp (.box 25 (.const p0)) 0) w fun a b=>
 RR (sOp (.box 3 (.const p1)) 0) b fun b c=>
 RR (sOp (.box 77 (.const p2)) 0) c fun c d=>
 RR (sOp (.load 77 (.const c)) 77) d fun d e=>
 RR (sOp (.nilCheck (.const d)) 0) e fun e f=>
 RR (sOp (.load 3 (.const e)) 3) f fun e f=>
 RR (av .add 3 false true e (.int .i64 1)) f fun e f=>
 RR (sOp (.nilCheck (.const d)) 0) f fun d f=>
 RR (sOp (.store 3 (.const d) (.const e)) 0) f fun _ d=>
 (∃ e:Value->World->Prop,(
 RR (sOp (.load 77 (.const c)) 77) d fun a c=>
 RR (sOp (.nilCheck (.const a)) 0) c fun a c=>
 RR (sOp (.load 3 (.const a)) 3) c fun a c=>
 RR (av .gtr 3 false true a (.int .i64 120)) c fun a c=>
 ai a false (
 RR (sOp (.load 3 (.const b)) 3) c fun b c=>
 RR (av .gtr 3 false true b (.int .i64 30)) c fun b c=>
 RR (sOp (.pick (.const a) (.const (.bool true)) (.const b)) 4) c fun a b=>
 e a b) (
 RR (sOp (.pick (.const a) (.const (.bool true)) (.const undef)) 4) c fun a b=>
 e a b))/\
 ∀ d _ _ _ _ _ _ _:Value,∀ f:World,e d f->
 CondV d (
 R (.returned (.bool false)) f) (
 RR (sOp (.fieldAddr 25 (.const a) 0) 0) f fun d e=>
 RR (sOp (.load 3 (.const d)) 3) e fun d e=>
 RR (av .eql 3 false true d (.int .i64 1)) e fun e f=>
 CondV e (
 RR (sOp (.fieldAddr 25 (.const a) 1) 0) f fun b c=>
 RR (sOp (.load 3 (.const b)) 3) c fun b c=>
 RR (aF (.func (.func 88) #[] #[]) [b,(.int .i64 0),(.int .i64 25)]) c fun b c=>
 ((fun d:VW=>ai b true (
 RR (sOp (.fieldAddr 25 (.const a) 2) 0) c fun a c=>
 RR (sOp (.load 9 (.const a)) 9) c fun a c=>
 RR (av .eql 9 false true a (.string ⟨#[]⟩)) c fun a c=>
 RR (sOp (.pick (.const b) (.const a) (.const (.bool false))) 4) c fun a b=>d a b) (
 RR (sOp (.pick (.const b) (.const undef) (.const (.bool false))) 4) c fun a b=>d a b)) fun b c=>
 ai b true (
 RR (sOp (.fieldAddr 25 (.const a) 3) 0) c fun a c=>
 RR (sOp (.load 23 (.const a)) 23) c fun a c=>
 RR (aE .len #[23] 3 [false] [a]) c fun a c=>
 RR (av .eql 3 false true a (.int .i64 0)) c fun a c=>
 RR (sOp (.pick (.const b) (.const a) (.const (.bool false))) 4) c fun a b=>
 R (.returned a) b) (
 RR (sOp (.pick (.const b) (.const undef) (.const (.bool false))) 4) c fun a b=>
 R (.returned a) b))) (
 RR (av .eql 3 false true d (.int .i64 2)) f fun e f=>
 CondV e (
 RR (sOp (.fieldAddr 25 (.const a) 1) 0) f fun b c=>
 RR (sOp (.load 3 (.const b)) 3) c fun b c=>
 RR (aF (.func (.func 88) #[] #[]) [b,(.int .i64 (-999)),(.int .i64 999)]) c fun b c=>
 ((fun d:VW=>ai b true (
 RR (sOp (.fieldAddr 25 (.const a) 2) 0) c fun a c=>
 RR (sOp (.load 9 (.const a)) 9) c fun a c=>
 RR (av .eql 9 false true a (.string ⟨#[]⟩)) c fun a c=>
 RR (sOp (.pick (.const b) (.const a) (.const (.bool false))) 4) c fun a b=>d a b) (
 RR (sOp (.pick (.const b) (.const undef) (.const (.bool false))) 4) c fun a b=>d a b)) fun b c=>
 ai b true (
 RR (sOp (.fieldAddr 25 (.const a) 3) 0) c fun a c=>
 RR (sOp (.load 23 (.const a)) 23) c fun a c=>
 RR (aE .len #[23] 3 [false] [a]) c fun a c=>
 RR (av .eql 3 false true a (.int .i64 0)) c fun a c=>
 RR (sOp (.pick (.const b) (.const a) (.const (.bool false))) 4) c fun a b=>
 R (.returned a) b) (
 RR (sOp (.pick (.const b) (.const undef) (.const (.bool false))) 4) c fun a b=>
 R (.returned a) b))) (
 RR (av .eql 3 false true d (.int .i64 3)) f fun d e=>
 CondV d (
 (∃ d:Value->World->Prop,(
 RR (sOp (.fieldAddr 25 (.const a) 1) 0) e fun b c=>
 RR (sOp (.load 3 (.const b)) 3) c fun b c=>
 RR (av .neq 3 false true b (.int .i64 0)) c fun b c=>
 ((fun d:VW=>ai b false (
 RR (sOp (.fieldAddr 25 (.const a) 2) 0) c fun a c=>
 RR (sOp (.load 9 (.const a)) 9) c fun a c=>
 RR (aF (.func (.func 89) #[] #[]) [a]) c fun a c=>
 RR (sOp (.unOp .not 4 (.const a)) 4) c fun a c=>
 RR (sOp (.pick (.const b) (.const (.bool true)) (.const a)) 4) c fun a b=>d a b) (
 RR (sOp (.pick (.const b) (.const (.bool true)) (.const undef)) 4) c fun a b=>d a b)) fun b c=>
 ai b false (
 RR (sOp (.fieldAddr 25 (.const a) 3) 0) c fun a c=>
 RR (sOp (.load 23 (.const a)) 23) c fun a c=>
 RR (aE .len #[23] 3 [false] [a]) c fun a c=>
 RR (av .gtr 3 false true a (.int .i64 4)) c fun a c=>
 RR (sOp (.pick (.const b) (.const (.bool true)) (.const a)) 4) c fun a b=>
 d a b) (
 RR (sOp (.pick (.const b) (.const (.bool true)) (.const undef)) 4) c fun a b=>
 d a b)))/\
 ∀ e _ _ _ _ _ _ _ _ _ _ _ _ _ _:Value,∀ f:World,d e f->
 CondV e (
 R (.returned (.bool false)) f) (
 RR (sOp (.fieldAddr 25 (.const a) 3) 0) f fun a d=>
 RR (sOp (.load 23 (.const a)) 23) d fun a d=>
 RR (iH (.func 90) [] [b,c]) d fun b c=>
 RR (aF (.func (.func 62) #[] #[]) [a,b]) c fun a b=>
 RR (sOp (.unOp .not 4 (.const a)) 4) b fun a b=>
 R (.returned a) b))) (
 R (.returned (.bool false)) e)))))
theorem Cc {p0 p1 p2:Value} {w:World} {R:Ending->World->Prop} (h:Bj p0 p1 p2 w R):Calls Tryz.prog 54 #[p0,p1,p2] w R:=
  aK (.seq none .leaf (.seq none .leaf (.seq none (.seq (some [19]) .leaf .leaf) (.seq none (.seq none .leaf (.one (.seq none .leaf (.two .leaf (.seq none .leaf (.two .leaf (.seq none .leaf (.two (.seq none (.seq (some [70]) .leaf .leaf) .leaf) .leaf)))))))) .leaf)))) [p0,p1,p2] bp Tryz.func54 (by kernel_rfl) (by kernel_rfl) h


/- loop.example/prologserver/impl.own : function 55 -/
def DN (p0:Value) (w:World) (R:Ending->World->Prop):Prop:=
 RR (sOp (.box 25 (.const p0)) 0) w fun a b=>
 RR (sOp (.alloc 25) 0) b fun b c=>
 RR (sOp (.fieldAddr 25 (.const a) 3) 0) c fun c d=>
 RR (sOp (.load 23 (.const c)) 23) d fun c d=>
 RR (aF (.func (.func 56) #[] #[]) [c]) d fun c d=>
 RR (sOp (.fieldAddr 25 (.const a) 3) 0) d fun d e=>
 RR (sOp (.store 23 (.const d) (.const c)) 0) e fun _ c=>
 RR (sOp (.load 25 (.const a)) 25) c fun a c=>
 RR (sOp (.store 25 (.const b) (.const a)) 0) c fun _ a=>
 (a4 Tryz.prog 25 b a fun b=>R (.returned b) a)
theorem Ds {p0:Value} {w:World} {R:Ending->World->Prop} (h:DN p0 w R):Calls Tryz.prog 55 #[p0] w R:=
  aK .leaf [p0] bp Tryz.func55 (by kernel_rfl) (by kernel_rfl) h


/- loop.example/prologserver/impl.ownList : function 56 -/
def qQ (p0:Value) (w:World) (R:Ending->World->Prop):Prop:=
 RR (aE .len #[23] 3 [false] [p0]) w fun a b=>
 (∃ (c:Value->Value->World->Prop) (d:Value->Value->World->Nat),c (.int .i64 0) (Value.slice none 0 0) b/\
 ∀ b _ e _ _ _ _ _ _ _ _ _:Value,∀ f:World,c b e f->
 RR (av .lss 3 false false b a) f fun a g=>
 CondV a (
 RR (sOp (.indexAddr 23 (.const p0) (.const b)) 0) g fun a g=>
 RR (sOp (.load 25 (.const a)) 25) g fun a g=>
 RR (sOp (.alloc 25) 0) g fun g h=>
 RR (sOp (.store 25 (.const g) (.const a)) 0) h fun _ a=>
 RR (sOp (.load 25 (.const g)) 25) a fun a g=>
 RR (aF (.func (.func 55) #[] #[]) [a]) g fun a g=>
 RR (aQ 23 1 [(0,a)]) g fun a g=>
 RR (aE .append #[23,23] 23 [false,false] [e,a]) g fun a g=>
 RR (av .add 3 false true b (.int .i64 1)) g fun g h=>
 c g a h/\d g a h<d b e f) (
 R (.returned e) g))
theorem wk {p0:Value} {w:World} {R:Ending->World->Prop} (h:qQ p0 w R):Calls Tryz.prog 56 #[p0] w R:=
  aK (.seq none .leaf (.seq none .leaf (.seq none (.seq none .leaf (.one (.loop [8,3] .leaf))) .leaf))) [p0] bp Tryz.func56 (by kernel_rfl) (by kernel_rfl) h


/- loop.example/prologserver/impl.renumbered : function 57 -/
def mh (p0:Value) (w:World) (R:Ending->World->Prop):Prop:=
 RR (aF (.func (.func 91) #[] #[]) [p0]) w fun a b=>
 RR (sOp (.alloc 85) 0) b fun b c=>
 RR (sOp (.store 85 (.const b) (.const a)) 0) c fun _ a=>
 RR (aE .len #[23] 3 [false] [p0]) a fun a c=>
 (∃ (d:Value->Value->World->Prop) (e:Value->Value->World->Nat),d (.int .i64 0) (Value.slice none 0 0) c/\
 ∀ c _ f _ _ _ _ _ _ _ _ _ _:Value,∀ g:World,d c f g->
 RR (av .lss 3 false false c a) g fun a h=>
 CondV a (
 RR (sOp (.indexAddr 23 (.const p0) (.const c)) 0) h fun a h=>
 RR (sOp (.load 25 (.const a)) 25) h fun a h=>
 RR (sOp (.alloc 25) 0) h fun h i=>
 RR (sOp (.store 25 (.const h) (.const a)) 0) i fun _ a=>
 RR (sOp (.load 25 (.const h)) 25) a fun a h=>
 RR (iH (.func 92) [] [b]) h fun b h=>
 RR (aF (.func (.func 44) #[] #[]) [a,b]) h fun a b=>
 RR (aQ 23 1 [(0,a)]) b fun a b=>
 RR (aE .append #[23,23] 23 [false,false] [f,a]) b fun a b=>
 RR (av .add 3 false true c (.int .i64 1)) b fun b h=>
 d b a h/\e b a h<e c f g) (
 R (.returned f) h))
theorem qO {p0:Value} {w:World} {R:Ending->World->Prop} (h:mh p0 w R):Calls Tryz.prog 57 #[p0] w R:=
  aK (.seq none .leaf (.seq none .leaf (.seq none .leaf (.seq none (.seq none .leaf (.one (.loop [11,4] .leaf))) .leaf)))) [p0] bp Tryz.func57 (by kernel_rfl) (by kernel_rfl) h


/- slices.Clip[[]loop.example/prologserver/impl.Term,loop.example/prologserver/impl.Term] : function 58 -/
def oc (p0:Value) (w:World) (R:Ending->World->Prop):Prop:=
 RR (aE .len #[23] 3 [false] [p0]) w fun a b=>
 RR (aE .len #[23] 3 [false] [p0]) b fun b c=>
 RR (sOp (.slice 23 (.const p0) none (some (.const a)) (some (.const b))) 23) c fun a b=>
 R (.returned a) b
theorem tu {p0:Value} {w:World} {R:Ending->World->Prop} (h:oc p0 w R):Calls Tryz.prog 58 #[p0] w R:=
  aK .leaf [p0] bp Tryz.func58 (by kernel_rfl) (by kernel_rfl) h


/- loop.example/prologserver/impl.isLetters : function 59 -/
def nu (p0:Value) (w:World) (R:Ending->World->Prop):Prop:=
 RR (aE .len #[9] 3 [false] [p0]) w fun a b=>
 (∃ (c:Value->World->Prop) (d:Value->World->Nat),c (.int .i64 0) b/\
 ∀ b _ _ _ _ _ _ _ _ _ _ _ _ _ _ _:Value,∀ e:World,c b e->
 RR (av .lss 3 false false b a) e fun a f=>
 CondV a (
 (∃ a:Value->World->Prop,(
 RR (sOp (.index 9 (.const p0) (.const b)) 5) f fun c d=>
 RR (av .lss 5 false true c (.int .u8 97)) d fun c d=>
 ai c false (
 RR (sOp (.index 9 (.const p0) (.const b)) 5) d fun b d=>
 RR (av .gtr 5 false true b (.int .u8 122)) d fun b d=>
 RR (sOp (.pick (.const c) (.const (.bool true)) (.const b)) 4) d fun b c=>
 a b c) (
 RR (sOp (.pick (.const c) (.const (.bool true)) (.const undef)) 4) d fun b c=>
 a b c))/\
 ∀ f _ _ _ _ _ _ _ _ _:Value,∀ g:World,a f g->
 CondV f (
 R (.returned (.bool false)) g) (
 RR (av .add 3 false true b (.int .i64 1)) g fun a f=>
 c a f/\d a f<d b e))) (
 RR (aE .len #[9] 3 [false] [p0]) f fun a b=>
 RR (aF (.func (.func 88) #[] #[]) [a,(.int .i64 1),(.int .i64 6)]) b fun a b=>
 R (.returned a) b))
theorem tf {p0:Value} {w:World} {R:Ending->World->Prop} (h:nu p0 w R):Calls Tryz.prog 59 #[p0] w R:=
  aK (.seq none .leaf (.seq none (.seq none .leaf (.one (.loop [6] (.seq none .leaf (.seq none .leaf (.seq none (.one (.seq none .leaf (.seq (some [18]) .leaf .leaf))) .leaf)))))) .leaf)) [p0] bp Tryz.func59 (by kernel_rfl) (by kernel_rfl) h


/- loop.example/prologserver/impl.isOp : function 60 -/
def Be (p0:Value) (w:World) (R:Ending->World->Prop):Prop:=
 RR (aF (.func (.func 94) #[] #[]) [p0]) w fun a b=>
 RR (sOp (.extract (.const a) 0) 3) b fun b c=>
 RR (sOp (.extract (.const a) 1) 4) c fun _ a=>
 RR (av .gtr 3 false true b (.int .i64 0)) a fun a b=>
 R (.returned a) b
theorem Cf {p0:Value} {w:World} {R:Ending->World->Prop} (h:Be p0 w R):Calls Tryz.prog 60 #[p0] w R:=
  aK .leaf [p0] bp Tryz.func60 (by kernel_rfl) (by kernel_rfl) h


/- loop.example/prologserver/impl.isBuilt : function 61 -/
def sP (p0:Value) (w:World) (R:Ending->World->Prop):Prop:=
 RR (sOp (.box 25 (.const p0)) 0) w fun a b=>
 RR (sOp (.fieldAddr 25 (.const a) 0) 0) b fun b c=>
 RR (sOp (.load 3 (.const b)) 3) c fun b c=>
 RR (av .eql 3 false true b (.int .i64 3)) c fun b c=>
 ai b true (
 RR (sOp (.fieldAddr 25 (.const a) 2) 0) c fun c d=>
 RR (sOp (.load 9 (.const c)) 9) d fun c d=>
 RR (sOp (.fieldAddr 25 (.const a) 3) 0) d fun a d=>
 RR (sOp (.load 23 (.const a)) 23) d fun a d=>
 RR (aE .len #[23] 3 [false] [a]) d fun a d=>
 RR (aF (.func (.func 95) #[] #[]) [c,a]) d fun a c=>
 RR (sOp (.pick (.const b) (.const a) (.const (.bool false))) 4) c fun a b=>
 R (.returned a) b) (
 RR (sOp (.pick (.const b) (.const undef) (.const (.bool false))) 4) c fun a b=>
 R (.returned a) b)
theorem wn {p0:Value} {w:World} {R:Ending->World->Prop} (h:sP p0 w R):Calls Tryz.prog 61 #[p0] w R:=
  aK .leaf [p0] bp Tryz.func61 (by kernel_rfl) (by kernel_rfl) h


/- slices.ContainsFunc[[]loop.example/prologserver/impl.Term,loop.example/prologserver/impl.Term] : function 62 -/
def fF (p0 p1:Value) (w:World) (R:Ending->World->Prop):Prop:=
 RR (aF (.func (.func 96) #[] #[]) [p0,p1]) w fun a b=>
 RR (av .geq 3 false true a (.int .i64 0)) b fun a b=>
 R (.returned a) b
theorem gD {p0 p1:Value} {w:World} {R:Ending->World->Prop} (h:fF p0 p1 w R):Calls Tryz.prog 62 #[p0,p1] w R:=
  aK .leaf [p0,p1] bp Tryz.func62 (by kernel_rfl) (by kernel_rfl) h


/- loop.example/prologserver/impl.goalsValid$1 : function 63 -/
def j8 (p0:Value) (w:World) (R:Ending->World->Prop):Prop:=
 RR (sOp (.box 25 (.const p0)) 0) w fun a b=>
 RR (sOp (.load 25 (.const a)) 25) b fun a b=>
 RR (aF (.func (.func 64) #[] #[]) [a]) b fun a b=>
 RR (sOp (.unOp .not 4 (.const a)) 4) b fun a b=>
 R (.returned a) b
theorem oD {p0:Value} {w:World} {R:Ending->World->Prop} (h:j8 p0 w R):Calls Tryz.prog 63 #[p0] w R:=
  aK .leaf [p0] bp Tryz.func63 (by kernel_rfl) (by kernel_rfl) h


/- loop.example/prologserver/impl.GoalValid : function 64 -/
def oh (p0:Value) (w:World) (R:Ending->World->Prop):Prop:=
 RR (sOp (.box 25 (.const p0)) 0) w fun a b=>
 RR (sOp (.load 25 (.const a)) 25) b fun b c=>
 RR (aF (.func (.func 25) #[] #[]) [b]) c fun b c=>
 ai b true (
 RR (sOp (.load 25 (.const a)) 25) c fun c d=>
 RR (aF (.func (.func 29) #[] #[]) [c]) d fun c d=>
 ai c false (
 RR (sOp (.load 25 (.const a)) 25) d fun d e=>
 RR (aF (.func (.func 61) #[] #[]) [d]) e fun d e=>
 ai b true (
 RR (sOp (.pick (.const c) (.const (.bool true)) (.const d)) 4) e fun c d=>
 ai c false (
 RR (sOp (.load 25 (.const a)) 25) d fun a d=>
 RR (aF (.func (.func 97) #[] #[]) [a]) d fun a d=>
 ai b true (
 RR (sOp (.pick (.const c) (.const (.bool true)) (.const a)) 4) d fun a c=>
 RR (sOp (.pick (.const b) (.const a) (.const (.bool false))) 4) c fun a b=>
 R (.returned a) b) (
 RR (sOp (.pick (.const b) (.const undef) (.const (.bool false))) 4) d fun a b=>
 R (.returned a) b)) (
 ai b true (
 RR (sOp (.pick (.const c) (.const (.bool true)) (.const undef)) 4) d fun a c=>
 RR (sOp (.pick (.const b) (.const a) (.const (.bool false))) 4) c fun a b=>
 R (.returned a) b) (
 RR (sOp (.pick (.const b) (.const undef) (.const (.bool false))) 4) d fun a b=>
 R (.returned a) b))) (
 ai undef false (
 RR (sOp (.load 25 (.const a)) 25) e fun a c=>
 RR (aF (.func (.func 97) #[] #[]) [a]) c fun a c=>
 ai b true (
 RR (sOp (.pick (.const undef) (.const (.bool true)) (.const a)) 4) c fun a c=>
 RR (sOp (.pick (.const b) (.const a) (.const (.bool false))) 4) c fun a b=>
 R (.returned a) b) (
 RR (sOp (.pick (.const b) (.const undef) (.const (.bool false))) 4) c fun a b=>
 R (.returned a) b)) (
 ai b true (
 RR (sOp (.pick (.const undef) (.const (.bool true)) (.const undef)) 4) e fun a c=>
 RR (sOp (.pick (.const b) (.const a) (.const (.bool false))) 4) c fun a b=>
 R (.returned a) b) (
 RR (sOp (.pick (.const b) (.const undef) (.const (.bool false))) 4) e fun a b=>
 R (.returned a) b)))) (
 ai b true (
 RR (sOp (.pick (.const c) (.const (.bool true)) (.const undef)) 4) d fun c d=>
 ai c false (
 RR (sOp (.load 25 (.const a)) 25) d fun a d=>
 RR (aF (.func (.func 97) #[] #[]) [a]) d fun a d=>
 ai b true (
 RR (sOp (.pick (.const c) (.const (.bool true)) (.const a)) 4) d fun a c=>
 RR (sOp (.pick (.const b) (.const a) (.const (.bool false))) 4) c fun a b=>
 R (.returned a) b) (
 RR (sOp (.pick (.const b) (.const undef) (.const (.bool false))) 4) d fun a b=>
 R (.returned a) b)) (
 ai b true (
 RR (sOp (.pick (.const c) (.const (.bool true)) (.const undef)) 4) d fun a c=>
 RR (sOp (.pick (.const b) (.const a) (.const (.bool false))) 4) c fun a b=>
 R (.returned a) b) (
 RR (sOp (.pick (.const b) (.const undef) (.const (.bool false))) 4) d fun a b=>
 R (.returned a) b))) (
 ai undef false (
 RR (sOp (.load 25 (.const a)) 25) d fun a c=>
 RR (aF (.func (.func 97) #[] #[]) [a]) c fun a c=>
 ai b true (
 RR (sOp (.pick (.const undef) (.const (.bool true)) (.const a)) 4) c fun a c=>
 RR (sOp (.pick (.const b) (.const a) (.const (.bool false))) 4) c fun a b=>
 R (.returned a) b) (
 RR (sOp (.pick (.const b) (.const undef) (.const (.bool false))) 4) c fun a b=>
 R (.returned a) b)) (
 ai b true (
 RR (sOp (.pick (.const undef) (.const (.bool true)) (.const undef)) 4) d fun a c=>
 RR (sOp (.pick (.const b) (.const a) (.const (.bool false))) 4) c fun a b=>
 R (.returned a) b) (
 RR (sOp (.pick (.const b) (.const undef) (.const (.bool false))) 4) d fun a b=>
 R (.returned a) b))))) (
 ai undef false (
 RR (sOp (.load 25 (.const a)) 25) c fun c d=>
 RR (aF (.func (.func 61) #[] #[]) [c]) d fun c d=>
 ai b true (
 RR (sOp (.pick (.const undef) (.const (.bool true)) (.const c)) 4) d fun c d=>
 ai c false (
 RR (sOp (.load 25 (.const a)) 25) d fun a d=>
 RR (aF (.func (.func 97) #[] #[]) [a]) d fun a d=>
 ai b true (
 RR (sOp (.pick (.const c) (.const (.bool true)) (.const a)) 4) d fun a c=>
 RR (sOp (.pick (.const b) (.const a) (.const (.bool false))) 4) c fun a b=>
 R (.returned a) b) (
 RR (sOp (.pick (.const b) (.const undef) (.const (.bool false))) 4) d fun a b=>
 R (.returned a) b)) (
 ai b true (
 RR (sOp (.pick (.const c) (.const (.bool true)) (.const undef)) 4) d fun a c=>
 RR (sOp (.pick (.const b) (.const a) (.const (.bool false))) 4) c fun a b=>
 R (.returned a) b) (
 RR (sOp (.pick (.const b) (.const undef) (.const (.bool false))) 4) d fun a b=>
 R (.returned a) b))) (
 ai undef false (
 RR (sOp (.load 25 (.const a)) 25) d fun a c=>
 RR (aF (.func (.func 97) #[] #[]) [a]) c fun a c=>
 ai b true (
 RR (sOp (.pick (.const undef) (.const (.bool true)) (.const a)) 4) c fun a c=>
 RR (sOp (.pick (.const b) (.const a) (.const (.bool false))) 4) c fun a b=>
 R (.returned a) b) (
 RR (sOp (.pick (.const b) (.const undef) (.const (.bool false))) 4) c fun a b=>
 R (.returned a) b)) (
 ai b true (
 RR (sOp (.pick (.const undef) (.const (.bool true)) (.const undef)) 4) d fun a c=>
 RR (sOp (.pick (.const b) (.const a) (.const (.bool false))) 4) c fun a b=>
 R (.returned a) b) (
 RR (sOp (.pick (.const b) (.const undef) (.const (.bool false))) 4) d fun a b=>
 R (.returned a) b)))) (
 ai b true (
 RR (sOp (.pick (.const undef) (.const (.bool true)) (.const undef)) 4) c fun c d=>
 ai c false (
 RR (sOp (.load 25 (.const a)) 25) d fun a d=>
 RR (aF (.func (.func 97) #[] #[]) [a]) d fun a d=>
 ai b true (
 RR (sOp (.pick (.const c) (.const (.bool true)) (.const a)) 4) d fun a c=>
 RR (sOp (.pick (.const b) (.const a) (.const (.bool false))) 4) c fun a b=>
 R (.returned a) b) (
 RR (sOp (.pick (.const b) (.const undef) (.const (.bool false))) 4) d fun a b=>
 R (.returned a) b)) (
 ai b true (
 RR (sOp (.pick (.const c) (.const (.bool true)) (.const undef)) 4) d fun a c=>
 RR (sOp (.pick (.const b) (.const a) (.const (.bool false))) 4) c fun a b=>
 R (.returned a) b) (
 RR (sOp (.pick (.const b) (.const undef) (.const (.bool false))) 4) d fun a b=>
 R (.returned a) b))) (
 ai undef false (
 RR (sOp (.load 25 (.const a)) 25) c fun a c=>
 RR (aF (.func (.func 97) #[] #[]) [a]) c fun a c=>
 ai b true (
 RR (sOp (.pick (.const undef) (.const (.bool true)) (.const a)) 4) c fun a c=>
 RR (sOp (.pick (.const b) (.const a) (.const (.bool false))) 4) c fun a b=>
 R (.returned a) b) (
 RR (sOp (.pick (.const b) (.const undef) (.const (.bool false))) 4) c fun a b=>
 R (.returned a) b)) (
 ai b true (
 RR (sOp (.pick (.const undef) (.const (.bool true)) (.const undef)) 4) c fun a c=>
 RR (sOp (.pick (.const b) (.const a) (.const (.bool false))) 4) c fun a b=>
 R (.returned a) b) (
 RR (sOp (.pick (.const b) (.const undef) (.const (.bool false))) 4) c fun a b=>
 R (.returned a) b)))))
theorem ra {p0:Value} {w:World} {R:Ending->World->Prop} (h:oh p0 w R):Calls Tryz.prog 64 #[p0] w R:=
  aK .leaf [p0] bp Tryz.func64 (by kernel_rfl) (by kernel_rfl) h


/- loop.example/prologserver/spec.l18Cut : function 65 -/
def uQ (p0 p1:Value) (w:World) (R:Ending->World->Prop):Prop:=
 RR (aQ 55 0 []) w fun a b=>
 (∃ (c:Value->Value->Value->World->Prop) (d:Value->Value->Value->World->Nat),c (.int .i64 0) (.int .i64 0) a b/\
 ∀ a _ _ b _ _ e _ _ _ _ _ _ _ _ _ _ _ _ _ _ _ _ _ _ _ _ _ _:Value,∀ f:World,c a b e f->
 RR (aE .len #[9] 3 [false] [p0]) f fun g h=>
 RR (av .leq 3 false false a g) h fun g h=>
 CondV g (
 (∃ g:Value->Value->World->Prop,(
 (∃ c:Value->World->Prop,(
 RR (aE .len #[9] 3 [false] [p0]) h fun b d=>
 RR (av .eql 3 false false a b) d fun b d=>
 ai b false (
 RR (sOp (.index 9 (.const p0) (.const a)) 5) d fun a d=>
 RR (av .eql 5 false false a p1) d fun a d=>
 RR (sOp (.pick (.const b) (.const (.bool true)) (.const a)) 4) d fun a b=>
 c a b) (
 RR (sOp (.pick (.const b) (.const (.bool true)) (.const undef)) 4) d fun a b=>
 c a b))/\
 ∀ d _ _ _ _ _ _ _ _ _ _:Value,∀ f:World,c d f->
 CondV d (
 RR (sOp (.slice 9 (.const p0) (some (.const b)) (some (.const a)) none) 9) f fun b c=>
 RR (aQ 55 1 [(0,b)]) c fun b c=>
 RR (aE .append #[55,55] 55 [false,false] [e,b]) c fun b c=>
 RR (av .add 3 false true a (.int .i64 1)) c fun a c=>
 g a b c) (
 g b e f)))/\
 ∀ h _ _ i _ _ _ _ _ _ _ _ _ _ _ _ _ _ _ _ _ _:Value,∀ j:World,g h i j->
 RR (av .add 3 false true a (.int .i64 1)) j fun g j=>
 c g h i j/\d g h i j<d a b e f)) (
 R (.returned e) h))
theorem yc {p0 p1:Value} {w:World} {R:Ending->World->Prop} (h:uQ p0 p1 w R):Calls Tryz.prog 65 #[p0,p1] w R:=
  aK (.seq none .leaf (.seq none .leaf (.seq none .leaf (.seq none (.seq none .leaf (.one (.loop [7,6,5] (.seq none .leaf (.seq (some [6,5]) (.one (.seq (some [25]) .leaf .leaf)) .leaf))))) .leaf)))) [p0,p1] bp Tryz.func65 (by kernel_rfl) (by kernel_rfl) h


/- loop.example/prologserver/spec.ParseClause : function 66 -/
def ld (p0:Value) (w:World) (R:Ending->World->Prop):Prop:=
 RR (sOp (.alloc 27) 0) w fun a b=>
 RR (aE .len #[9] 3 [false] [p0]) b fun b c=>
 RR (av .gtr 3 false true b (.int .i64 1000)) c fun b c=>
 CondV b (
 RR (bP 27 []) c fun b c=>
 RR (sOp (.store 27 (.const a) (.const b)) 0) c fun _ b=>
 (a4 Tryz.prog 27 a b fun a=>R (.returned (.tuple #[a,(.bool false)])) b)) (
 RR (aF (.func (.func 98) #[] #[]) [p0,(.int .i64 0),(.int .i64 30),(.int .i64 3)]) c fun b c=>
 RR (sOp (.extract (.const b) 0) 25) c fun c d=>
 RR (sOp (.extract (.const b) 1) 3) d fun b d=>
 RR (sOp (.alloc 25) 0) d fun d e=>
 RR (sOp (.store 25 (.const d) (.const c)) 0) e fun _ c=>
 RR (av .lss 3 false true b (.int .i64 0)) c fun c e=>
 CondV c (
 RR (bP 27 []) e fun b c=>
 RR (sOp (.store 27 (.const a) (.const b)) 0) c fun _ b=>
 (a4 Tryz.prog 27 a b fun a=>R (.returned (.tuple #[a,(.bool false)])) b)) (
 RR (sOp (.load 25 (.const d)) 25) e fun c d=>
 RR (bP 27 [(0,c)]) d fun c d=>
 RR (sOp (.alloc 27) 0) d fun d e=>
 RR (sOp (.store 27 (.const d) (.const c)) 0) e fun _ c=>
 (∃ e:Value->World->Prop,(
 (∃ a:Value->World->Prop,(
 RR (aF (.func (.func 99) #[] #[]) [p0,b,(.int .u8 58)]) c fun c d=>
 ai c true (
 RR (av .add 3 false true b (.int .i64 1)) d fun b d=>
 RR (aF (.func (.func 99) #[] #[]) [p0,b,(.int .u8 45)]) d fun b d=>
 RR (sOp (.pick (.const c) (.const b) (.const (.bool false))) 4) d fun b c=>
 a b c) (
 RR (sOp (.pick (.const c) (.const undef) (.const (.bool false))) 4) d fun b c=>
 a b c))/\
 ∀ c _ _ _ _ _ _ _ _:Value,∀ f:World,a c f->
 CondV c (
 RR (av .add 3 false true b (.int .i64 2)) f fun a b=>
 RR (aF (.func (.func 67) #[] #[]) [p0,a]) b fun a b=>
 RR (sOp (.extract (.const a) 0) 23) b fun b c=>
 RR (sOp (.extract (.const a) 1) 3) c fun a c=>
 RR (sOp (.fieldAddr 27 (.const d) 1) 0) c fun c d=>
 RR (sOp (.store 23 (.const c) (.const b)) 0) d fun _ b=>
 e a b) (
 e b f)))/\
 ∀ b _ _ _ _ _ _ _ _ _ _ _ _ _ _ _ _ _:Value,∀ c:World,e b c->
 (∃ e:Value->World->Prop,(
 RR (aE .len #[9] 3 [false] [p0]) c fun a c=>
 RR (av .sub 3 false true a (.int .i64 1)) c fun a c=>
 RR (av .neq 3 false false b a) c fun a c=>
 ((fun d:VW=>ai a false (
 RR (aF (.func (.func 99) #[] #[]) [p0,b,(.int .u8 46)]) c fun b c=>
 RR (sOp (.unOp .not 4 (.const b)) 4) c fun b c=>
 RR (sOp (.pick (.const a) (.const (.bool true)) (.const b)) 4) c fun a b=>d a b) (
 RR (sOp (.pick (.const a) (.const (.bool true)) (.const undef)) 4) c fun a b=>d a b)) fun a b=>
 ai a false (
 RR (sOp (.load 27 (.const d)) 27) b fun b c=>
 RR (aF (.func (.func 100) #[] #[]) [b]) c fun b c=>
 RR (av .neq 9 false false b p0) c fun b c=>
 RR (sOp (.pick (.const a) (.const (.bool true)) (.const b)) 4) c fun a b=>
 e a b) (
 RR (sOp (.pick (.const a) (.const (.bool true)) (.const undef)) 4) b fun a b=>
 e a b)))/\
 ∀ b _ _ _ _ _ _ _ _ _ _ _ _ _ _ _ _:Value,∀ c:World,e b c->
 CondV b (
 RR (bP 27 []) c fun b c=>
 RR (sOp (.store 27 (.const a) (.const b)) 0) c fun _ b=>
 (a4 Tryz.prog 27 a b fun a=>R (.returned (.tuple #[a,(.bool false)])) b)) (
 RR (sOp (.load 27 (.const d)) 27) c fun b c=>
 RR (aF (.func (.func 22) #[] #[]) [b]) c fun b c=>
 RR (sOp (.store 27 (.const a) (.const b)) 0) c fun _ b=>
 (a4 Tryz.prog 27 a b fun a=>R (.returned (.tuple #[a,(.bool true)])) b))))))
theorem o5 {p0:Value} {w:World} {R:Ending->World->Prop} (h:ld p0 w R):Calls Tryz.prog 66 #[p0] w R:=
  aK (.seq none .leaf (.seq none .leaf (.seq none .leaf (.seq none .leaf (.seq none .leaf (.seq (some [5]) (.seq (some [29]) .leaf .leaf) (.seq none (.seq (some [54]) .leaf .leaf) .leaf))))))) [p0] bp Tryz.func66 (by kernel_rfl) (by kernel_rfl) h


/- loop.example/prologserver/spec.l4Goals : function 67 -/
def se (p0 p1:Value) (w:World) (R:Ending->World->Prop):Prop:=
 RR (aQ 23 0 []) w fun a b=>
 (∃ (c:Value->Value->World->Prop) (d:Value->Value->World->Nat),c p1 a b/\
 ∀ a _ _ _ _ _ _ _ _ b _ _ _ _ _ _ _ _ _ _ _ _ _ _ _ _ _ _ _:Value,∀ e:World,c a b e->
 RR (aE .len #[23] 3 [false] [b]) e fun f g=>
 RR (av .leq 3 false true f (.int .i64 6)) g fun f g=>
 CondV f (
 RR (aF (.func (.func 98) #[] #[]) [p0,a,(.int .i64 30),(.int .i64 3)]) g fun f g=>
 RR (sOp (.extract (.const f) 0) 25) g fun g h=>
 RR (sOp (.extract (.const f) 1) 3) h fun f h=>
 RR (sOp (.alloc 25) 0) h fun h i=>
 RR (sOp (.store 25 (.const h) (.const g)) 0) i fun _ g=>
 RR (av .lss 3 false true f (.int .i64 0)) g fun g i=>
 CondV g (
 R (.returned (.tuple #[(Value.slice none 0 0),(.int .i64 (-1))])) i) (
 RR (sOp (.load 25 (.const h)) 25) i fun g h=>
 RR (aQ 23 1 [(0,g)]) h fun g h=>
 RR (aE .append #[23,23] 23 [false,false] [b,g]) h fun g h=>
 RR (aF (.func (.func 99) #[] #[]) [p0,f,(.int .u8 44)]) h fun h i=>
 RR (sOp (.unOp .not 4 (.const h)) 4) i fun h i=>
 CondV h (
 R (.returned (.tuple #[g,f])) i) (
 RR (av .add 3 false true f (.int .i64 1)) i fun f h=>
 c f g h/\d f g h<d a b e))) (
 R (.returned (.tuple #[(Value.slice none 0 0),(.int .i64 (-1))])) g))
theorem wD {p0 p1:Value} {w:World} {R:Ending->World->Prop} (h:se p0 p1 w R):Calls Tryz.prog 67 #[p0,p1] w R:=
  aK (.seq none .leaf (.seq none .leaf (.seq none (.one (.loop [1,6] .leaf)) .leaf))) [p0,p1] bp Tryz.func67 (by kernel_rfl) (by kernel_rfl) h


/- loop.example/prologserver/spec.QueryValid : function 68 -/
def mt (p0:Value) (w:World) (R:Ending->World->Prop):Prop:=
 (∃ (a:Value->World->Prop) (b:Value->World->Nat),a (.int .i64 0) w/\
 ∀ c _ _ _ _ _ _ _ _ _ _ _ _ _ _ _ _ _:Value,∀ d:World,a c d->
 (∃ e:Value->World->Prop,(
 RR (aE .len #[23] 3 [false] [p0]) d fun a b=>
 RR (av .lss 3 false false c a) b fun a b=>
 ai a true (
 RR (av .leq 3 false true c (.int .i64 6)) b fun b c=>
 RR (sOp (.pick (.const a) (.const b) (.const (.bool false))) 4) c fun a b=>
 e a b) (
 RR (sOp (.pick (.const a) (.const undef) (.const (.bool false))) 4) b fun a b=>
 e a b))/\
 ∀ f _ _ _ _ _ _ _:Value,∀ g:World,e f g->
 CondV f (
 RR (sOp (.indexAddr 23 (.const p0) (.const c)) 0) g fun e f=>
 RR (sOp (.load 25 (.const e)) 25) f fun e f=>
 RR (aF (.func (.func 46) #[] #[]) [e]) f fun e f=>
 RR (sOp (.unOp .not 4 (.const e)) 4) f fun e f=>
 CondV e (
 R (.returned (.bool false)) f) (
 RR (av .add 3 false true c (.int .i64 1)) f fun e f=>
 a e f/\b e f<b c d)) (
 RR (aE .len #[23] 3 [false] [p0]) g fun a b=>
 RR (av .leq 3 false true a (.int .i64 6)) b fun a b=>
 R (.returned a) b)))
theorem qI {p0:Value} {w:World} {R:Ending->World->Prop} (h:mt p0 w R):Calls Tryz.prog 68 #[p0] w R:=
  aK (.seq none .leaf (.seq none (.seq none .leaf (.one (.loop [3] (.seq none (.seq (some [11]) .leaf .leaf) .leaf)))) .leaf)) [p0] bp Tryz.func68 (by kernel_rfl) (by kernel_rfl) h


/- (*loop.example/prologserver/spec.l18Rd).num : function 69 -/
def mV (p0 p1:Value) (w:World) (R:Ending->World->Prop):Prop:=
 RR (aE .len #[85] 3 [false] [p1]) w fun a b=>
 RR (aF (.func (.func 14) #[] #[]) [p0,a]) b fun a b=>
 RR (sOp (.indexAddr 85 (.const p1) (.const a)) 0) b fun a b=>
 RR (sOp (.load 3 (.const a)) 3) b fun a b=>
 R (.returned a) b
theorem sN {p0 p1:Value} {w:World} {R:Ending->World->Prop} (h:mV p0 p1 w R):Calls Tryz.prog 69 #[p0,p1] w R:=
  aK .leaf [p0,p1] bp Tryz.func69 (by kernel_rfl) (by kernel_rfl) h


/- loop.example/prologserver/spec.l1Int : function 70 -/
def yP (p0:Value) (w:World) (R:Ending->World->Prop):Prop:=
 RR (sOp (.alloc 25) 0) w fun a b=>
 RR (bP 25 [(0,(.int .i64 2)),(1,p0)]) b fun b c=>
 RR (sOp (.store 25 (.const a) (.const b)) 0) c fun _ b=>
 (a4 Tryz.prog 25 a b fun a=>R (.returned a) b)
theorem zP {p0:Value} {w:World} {R:Ending->World->Prop} (h:yP p0 w R):Calls Tryz.prog 70 #[p0] w R:=
  aK .leaf [p0] bp Tryz.func70 (by kernel_rfl) (by kernel_rfl) h


/- loop.example/prologserver/spec.l1Draw : function 71 -/
def u1 (p0 p1:Value) (w:World) (R:Ending->World->Prop):Prop:=
 RR (sOp (.alloc 25) 0) w fun a b=>
 (∃ c:Value->World->Prop,(
 RR (av .lss 3 false true p1 (.int .i64 2)) b fun a b=>
 ai a false (
 RR (aF (.func (.func 14) #[] #[]) [p0,(.int .i64 4)]) b fun b d=>
 RR (av .eql 3 false true b (.int .i64 0)) d fun b d=>
 RR (sOp (.pick (.const a) (.const (.bool true)) (.const b)) 4) d fun a b=>
 c a b) (
 RR (sOp (.pick (.const a) (.const (.bool true)) (.const undef)) 4) b fun a b=>
 c a b))/\
 ∀ b _ _ _ _ _ _:Value,∀ d:World,c b d->
 CondV b (
 RR (aF (.func (.func 14) #[] #[]) [p0,(.int .i64 4)]) d fun b c=>
 RR (av .eql 3 false true b (.int .i64 0)) c fun c d=>
 CondV c (
 RR (aF (.func (.func 14) #[] #[]) [p0,(.int .i64 4)]) d fun b c=>
 RR (aF (.func (.func 101) #[] #[]) [b]) c fun b c=>
 RR (sOp (.store 25 (.const a) (.const b)) 0) c fun _ b=>
 (a4 Tryz.prog 25 a b fun a=>R (.returned a) b)) (
 RR (av .eql 3 false true b (.int .i64 1)) d fun b c=>
 CondV b (
 RR (aQ 85 6 [(0,(.int .i64 0)),(1,(.int .i64 1)),(2,(.int .i64 7)),(3,(.int .i64 (-3))),(4,(.int .i64 999)),(5,(.int .i64 (-999)))]) c fun b c=>
 RR (aF (.func (.func 69) #[] #[]) [p0,b]) c fun b c=>
 RR (aF (.func (.func 70) #[] #[]) [b]) c fun b c=>
 RR (sOp (.store 25 (.const a) (.const b)) 0) c fun _ b=>
 (a4 Tryz.prog 25 a b fun a=>R (.returned a) b)) (
 RR (aQ 55 6 [(0,(.string ⟨#[97]⟩)),(1,(.string ⟨#[98]⟩)),(2,(.string ⟨#[110,105,108]⟩)),(3,(.string ⟨#[91,93]⟩)),(4,(.string ⟨#[102,111,111]⟩)),(5,(.string ⟨#[43]⟩))]) c fun b c=>
 RR (aF (.func (.func 39) #[] #[]) [p0,b]) c fun b c=>
 RR (aF (.func (.func 38) #[] #[]) [b,(Value.slice none 0 0)]) c fun b c=>
 RR (sOp (.store 25 (.const a) (.const b)) 0) c fun _ b=>
 (a4 Tryz.prog 25 a b fun a=>R (.returned a) b)))) (
 RR (aF (.func (.func 14) #[] #[]) [p0,(.int .i64 3)]) d fun b c=>
 RR (av .eql 3 false true b (.int .i64 0)) c fun b c=>
 CondV b (
 RR (av .sub 3 false true p1 (.int .i64 1)) c fun b c=>
 RR (aF (.func (.func 71) #[] #[]) [p0,b]) c fun b c=>
 RR (av .sub 3 false true p1 (.int .i64 1)) c fun c d=>
 RR (aF (.func (.func 71) #[] #[]) [p0,c]) d fun c d=>
 RR (aQ 23 2 [(0,b),(1,c)]) d fun b c=>
 RR (aF (.func (.func 38) #[] #[]) [(.string ⟨#[46]⟩),b]) c fun b c=>
 RR (sOp (.store 25 (.const a) (.const b)) 0) c fun _ b=>
 (a4 Tryz.prog 25 a b fun a=>R (.returned a) b)) (
 RR (aQ 55 7 [(0,(.string ⟨#[102]⟩)),(1,(.string ⟨#[103]⟩)),(2,(.string ⟨#[115]⟩)),(3,(.string ⟨#[43]⟩)),(4,(.string ⟨#[61]⟩)),(5,(.string ⟨#[105,115]⟩)),(6,(.string ⟨#[102,111,111]⟩))]) c fun b c=>
 RR (aF (.func (.func 39) #[] #[]) [p0,b]) c fun b c=>
 RR (aF (.func (.func 38) #[] #[]) [b,(Value.slice none 0 0)]) c fun b c=>
 RR (sOp (.alloc 25) 0) c fun c d=>
 RR (sOp (.store 25 (.const c) (.const b)) 0) d fun _ b=>
 RR (aQ 85 4 [(0,(.int .i64 2)),(1,(.int .i64 1)),(2,(.int .i64 3)),(3,(.int .i64 2))]) b fun b d=>
 RR (aF (.func (.func 69) #[] #[]) [p0,b]) d fun b d=>
 (∃ (e:Value->World->Prop) (f:Value->World->Nat),e b d/\
 ∀ b _ _ d g h i j k l m n _ _:Value,∀ o:World,e b o->
 RR (av .gtr 3 false true b (.int .i64 0)) o fun p q=>
 CondV p (
 (∃ a:(Nat->Bool)->Value->Value->Value->Value->Value->Value->Value->Value->Value->World->Prop,a (fun _=>false) d g h i j k l m n { q with drawn:=q.drawn+1 }/\(
 (∀ b:Nat->Bool,b 0=false->∀ d e f g h i j k l m,a b d e f g h i j k l m->
 RR (sOp (.fieldAddr 25 (.const c) 3) 0) m fun c l=>
 a (ao b 0) d e f g h i j k c l)/\
 (∀ b:Nat->Bool,b 1=false->b 0=true->∀ c d e f g h i j k l,a b c d e f g h i j k l->
 RR (sOp (.load 23 (.const k)) 23) l fun j l=>
 a (ao b 1) c d e f g h i j k l)/\
 (∀ b:Nat->Bool,b 2=false->∀ c d e f g h i j k l,a b c d e f g h i j k l->
 a (ao b 2) c d e f g h p0 j k l)/\
 (∀ b:Nat->Bool,b 3=false->∀ c d e f g h i j k l,a b c d e f g h i j k l->
 a (ao b 3) c d e f g p1 i j k l)/\
 (∀ b:Nat->Bool,b 4=false->b 3=true->∀ c d e f g h i j k l,a b c d e f g h i j k l->
 RR (av .sub 3 false true h (.int .i64 1)) l fun g l=>
 a (ao b 4) c d e f g h i j k l)/\
 (∀ b:Nat->Bool,b 5=false->b 2=true->b 4=true->∀ c d e f g h i j k l,a b c d e f g h i j k l->
 RR (aF (.func (.func 71) #[] #[]) [i,g]) l fun f l=>
 a (ao b 5) c d e f g h i j k l)/\
 (∀ b:Nat->Bool,b 6=false->b 5=true->∀ c d e f g h i j k l,a b c d e f g h i j k l->
 RR (aQ 23 1 [(0,f)]) l fun e l=>
 a (ao b 6) c d e f g h i j k l)/\
 (∀ b:Nat->Bool,b 7=false->b 1=true->b 6=true->b 5=true->∀ c d e f g h i j k l,a b c d e f g h i j k l->
 RR (aE .append #[23,23] 23 [false,false] [j,e]) l fun d l=>
 a (ao b 7) c d e f g h i j k l)/\
 (∀ b:Nat->Bool,b 8=false->b 0=true->b 1=true->b 2=true->b 3=true->b 4=true->b 5=true->b 6=true->b 7=true->∀ d e f g h i j k l m,a b d e f g h i j k l m->
 RR (sOp (.fieldAddr 25 (.const c) 3) 0) m fun c d=>
 a (ao b 8) c e f g h i j k l d)/\
 (∀ b:Nat->Bool,b 9=false->b 8=true->b 7=true->b 7=true->b 0=true->b 1=true->b 2=true->b 3=true->b 4=true->b 5=true->b 6=true->b 7=true->∀ c d e f g h i j k l,a b c d e f g h i j k l->
 RR (sOp (.store 23 (.const c) (.const d)) 0) l fun _ l=>
 a (ao b 9) c d e f g h i j k l)/\
 True)/\
 ∀ c:Nat->Bool,c 9=true->c 8=true->c 7=true->c 6=true->c 5=true->c 4=true->c 3=true->c 2=true->c 1=true->c 0=true->∀ d g h i j k l m n p,a c d g h i j k l m n p->
 RR (av .sub 3 false true b (.int .i64 1)) p fun a c=>
 e a c/\f a c<f b o)) (
 RR (sOp (.load 25 (.const c)) 25) q fun b c=>
 RR (sOp (.store 25 (.const a) (.const b)) 0) c fun _ b=>
 (a4 Tryz.prog 25 a b fun a=>R (.returned a) b))))))
theorem yd {p0 p1:Value} {w:World} {R:Ending->World->Prop} (h:u1 p0 p1 w R):Calls Tryz.prog 71 #[p0,p1] w R:=
  aK (.seq none .leaf (.seq none (.seq (some [13]) .leaf .leaf) (.seq none .leaf (.seq none .leaf (.seq none (.seq none .leaf (.one (.loop [6] .leaf))) .leaf))))) [p0,p1] bp Tryz.func71 (by kernel_rfl) (by kernel_rfl) h


/- (*loop.example/prologserver/impl.store).walk : function 72 -/
def mF (p0 p1:Value) (w:World) (R:Ending->World->Prop):Prop:=
 RR (sOp (.box 25 (.const p1)) 0) w fun a b=>
 RR (sOp (.alloc 25) 0) b fun b c=>
 (∃ d:World->Prop,(
 (∃ (b:World->Prop) (e:World->Nat),b c/\
 ∀ _ _ _ c f g h i j k l m n o p _ _ _:Value,∀ q:World,b q->
 RR (sOp (.fieldAddr 25 (.const a) 0) 0) q fun r s=>
 RR (sOp (.load 3 (.const r)) 3) s fun r s=>
 RR (av .eql 3 false true r (.int .i64 1)) s fun r s=>
 CondV r (
 (∃ r:(Nat->Bool)->Value->Value->Value->Value->Value->Value->Value->Value->Value->Value->Value->Value->World->Prop,r (fun _=>false) c f g h i j k l m n o p { s with drawn:=s.drawn+1 }/\(
 (∀ a:Nat->Bool,a 0=false->∀ b c d e f g h i j k l m n,r a b c d e f g h i j k l m n->
 r (ao a 0) b c d e f g h i j k l p0 n)/\
 (∀ a:Nat->Bool,a 1=false->a 0=true->∀ b c d e f g h i j k l m n,r a b c d e f g h i j k l m n->
 RR (sOp (.nilCheck (.const m)) 0) n fun l n=>
 r (ao a 1) b c d e f g h i j k l m n)/\
 (∀ a:Nat->Bool,a 2=false->a 1=true->∀ b c d e f g h i j k l m n,r a b c d e f g h i j k l m n->
 RR (sOp (.fieldAddr 88 (.const l) 0) 0) n fun k n=>
 r (ao a 2) b c d e f g h i j k l m n)/\
 (∀ a:Nat->Bool,a 3=false->a 2=true->∀ b c d e f g h i j k l m n,r a b c d e f g h i j k l m n->
 RR (sOp (.load 51 (.const k)) 51) n fun j n=>
 r (ao a 3) b c d e f g h i j k l m n)/\
 (∀ b:Nat->Bool,b 4=false->∀ c d e f g h i j k l m n o,r b c d e f g h i j k l m n o->
 RR (sOp (.fieldAddr 25 (.const a) 1) 0) o fun a j=>
 r (ao b 4) c d e f g h i a k l m n j)/\
 (∀ a:Nat->Bool,a 5=false->a 4=true->∀ b c d e f g h i j k l m n,r a b c d e f g h i j k l m n->
 RR (sOp (.load 3 (.const i)) 3) n fun h n=>
 r (ao a 5) b c d e f g h i j k l m n)/\
 (∀ a:Nat->Bool,a 6=false->a 3=true->a 5=true->∀ b c d e f g h i j k l m n,r a b c d e f g h i j k l m n->
 RR (sOp (.lookup 51 (.const j) (.const h) true) 69) n fun g n=>
 r (ao a 6) b c d e f g h i j k l m n)/\
 (∀ a:Nat->Bool,a 7=false->a 6=true->∀ b c d e f g h i j k l m n,r a b c d e f g h i j k l m n->
 r (ao a 7) b c d e g g h i j k l m n)/\
 (∀ a:Nat->Bool,a 8=false->a 7=true->∀ b c d e f g h i j k l m n,r a b c d e f g h i j k l m n->
 RR (sOp (.extract (.const f) 0) 25) n fun e n=>
 r (ao a 8) b c d e f g h i j k l m n)/\
 (∀ a:Nat->Bool,a 9=false->a 7=true->∀ b c d e f g h i j k l m n,r a b c d e f g h i j k l m n->
 RR (sOp (.extract (.const f) 1) 4) n fun d n=>
 r (ao a 9) b c d e f g h i j k l m n)/\
 (∀ a:Nat->Bool,a 10=false->∀ b c d e f g h i j k l m n,r a b c d e f g h i j k l m n->
 RR (sOp (.alloc 25) 0) n fun c n=>
 r (ao a 10) b c d e f g h i j k l m n)/\
 (∀ a:Nat->Bool,a 11=false->a 10=true->a 8=true->a 0=true->a 1=true->a 2=true->a 3=true->a 4=true->a 5=true->a 6=true->a 7=true->a 8=true->a 10=true->∀ b c d e f g h i j k l m n,r a b c d e f g h i j k l m n->
 RR (sOp (.store 25 (.const c) (.const e)) 0) n fun _ n=>
 r (ao a 11) b c d e f g h i j k l m n)/\
 (∀ a:Nat->Bool,a 12=false->a 9=true->a 11=true->a 0=true->a 1=true->a 2=true->a 3=true->a 4=true->a 5=true->a 6=true->a 7=true->a 8=true->a 9=true->a 10=true->a 11=true->∀ b c d e f g h i j k l m n,r a b c d e f g h i j k l m n->
 r (ao a 12) d c d e f g h i j k l m n)/\
 True)/\
 ∀ c:Nat->Bool,c 12=true->c 11=true->c 10=true->c 9=true->c 8=true->c 7=true->c 6=true->c 5=true->c 4=true->c 3=true->c 2=true->c 1=true->c 0=true->∀ f g h i j k l m n o p s t,r c f g h i j k l m n o p s t->
 RR (sOp (.unOp .not 4 (.const f)) 4) t fun c f=>
 CondV c (
 d f) (
 RR (sOp (.load 25 (.const g)) 25) f fun c d=>
 RR (sOp (.store 25 (.const a) (.const c)) 0) d fun _ a=>
 b a/\e a<e q))) (
 d s)))/\
 ∀ _ _ _ _ _ _ _ _ _ _ _ _ _ _ _ _ _ _:Value,∀ c:World,d c->
 RR (sOp (.load 25 (.const a)) 25) c fun a c=>
 RR (sOp (.store 25 (.const b) (.const a)) 0) c fun _ a=>
 (a4 Tryz.prog 25 b a fun b=>R (.returned b) a))
theorem qk {p0 p1:Value} {w:World} {R:Ending->World->Prop} (h:mF p0 p1 w R):Calls Tryz.prog 72 #[p0,p1] w R:=
  aK (.seq none .leaf (.seq (some []) (.one (.loop [] .leaf)) .leaf)) [p0,p1] bp Tryz.func72 (by kernel_rfl) (by kernel_rfl) h


/- (*loop.example/prologserver/impl.store).bind : function 73 -/
def mJ (p0 p1 p2:Value) (w:World) (R:Ending->World->Prop):Prop:=
 RR (sOp (.box 25 (.const p2)) 0) w fun a b=>
 RR (sOp (.load 25 (.const a)) 25) b fun b c=>
 RR (sOp (.makeMap 112 none) 112) c fun c d=>
 RR (aF (.func (.func 102) #[] #[]) [p0,p1,b,c]) d fun b c=>
 CondV b (
 R (.returned (.bool false)) c) (
 (∃ b:(Nat->Bool)->Value->Value->Value->Value->Value->Value->World->Prop,b (fun _=>false) undef undef undef undef undef undef { c with drawn:=c.drawn+1 }/\(
 (∀ a:Nat->Bool,a 0=false->∀ c d e f g h i,b a c d e f g h i->
 b (ao a 0) c d e f g p0 i)/\
 (∀ a:Nat->Bool,a 1=false->a 0=true->∀ c d e f g h i,b a c d e f g h i->
 RR (sOp (.nilCheck (.const h)) 0) i fun g i=>
 b (ao a 1) c d e f g h i)/\
 (∀ a:Nat->Bool,a 2=false->a 1=true->∀ c d e f g h i,b a c d e f g h i->
 RR (sOp (.fieldAddr 88 (.const g) 0) 0) i fun f i=>
 b (ao a 2) c d e f g h i)/\
 (∀ a:Nat->Bool,a 3=false->a 2=true->∀ c d e f g h i,b a c d e f g h i->
 RR (sOp (.load 51 (.const f)) 51) i fun e i=>
 b (ao a 3) c d e f g h i)/\
 (∀ a:Nat->Bool,a 4=false->∀ c d e f g h i,b a c d e f g h i->
 b (ao a 4) c p1 e f g h i)/\
 (∀ c:Nat->Bool,c 5=false->∀ d e f g h i j,b c d e f g h i j->
 RR (sOp (.load 25 (.const a)) 25) j fun a d=>
 b (ao c 5) a e f g h i d)/\
 (∀ a:Nat->Bool,a 6=false->a 3=true->a 4=true->a 5=true->a 0=true->a 1=true->a 2=true->a 3=true->a 4=true->a 5=true->∀ c d e f g h i,b a c d e f g h i->
 RR (sOp (.mapUpdate 51 (.const e) (.const d) (.const c)) 0) i fun _ i=>
 b (ao a 6) c d e f g h i)/\
 True)/\
 ∀ a:Nat->Bool,a 6=true->a 5=true->a 4=true->a 3=true->a 2=true->a 1=true->a 0=true->∀ c d e f g h i,b a c d e f g h i->
 RR (sOp (.nilCheck (.const p0)) 0) i fun a b=>
 RR (sOp (.fieldAddr 88 (.const a) 1) 0) b fun a b=>
 RR (sOp (.load 85 (.const a)) 85) b fun a b=>
 RR (aQ 85 1 [(0,p1)]) b fun b c=>
 RR (aE .append #[85,85] 85 [false,false] [a,b]) c fun a b=>
 RR (sOp (.nilCheck (.const p0)) 0) b fun b c=>
 RR (sOp (.fieldAddr 88 (.const b) 1) 0) c fun b c=>
 RR (sOp (.store 85 (.const b) (.const a)) 0) c fun _ a=>
 R (.returned (.bool true)) a))
theorem pW {p0 p1 p2:Value} {w:World} {R:Ending->World->Prop} (h:mJ p0 p1 p2 w R):Calls Tryz.prog 73 #[p0,p1,p2] w R:=
  aK .leaf [p0,p1,p2] bp Tryz.func73 (by kernel_rfl) (by kernel_rfl) h


/- (*loop.example/prologserver/impl.store).resolving : function 74 -/
def ja (p0 p1 p2 p3:Value) (w:World) (R:Ending->World->Prop):Prop:=
 RR (sOp (.box 25 (.const p1)) 0) w fun a b=>
 RR (sOp (.alloc 25) 0) b fun b c=>
 RR (sOp (.load 25 (.const a)) 25) c fun c d=>
 RR (aF (.func (.func 72) #[] #[]) [p0,c]) d fun c d=>
 RR (sOp (.store 25 (.const a) (.const c)) 0) d fun _ c=>
 RR (sOp (.nilCheck (.const p3)) 0) c fun c d=>
 RR (sOp (.load 3 (.const c)) 3) d fun c d=>
 RR (av .add 3 false true c (.int .i64 1)) d fun c d=>
 RR (sOp (.nilCheck (.const p3)) 0) d fun d e=>
 RR (sOp (.store 3 (.const d) (.const c)) 0) e fun _ c=>
 (∃ d:Value->World->Prop,(
 RR (sOp (.nilCheck (.const p3)) 0) c fun a b=>
 RR (sOp (.load 3 (.const a)) 3) b fun a b=>
 RR (av .gtr 3 false true a (.int .i64 120)) b fun a b=>
 ai a false (
 RR (av .gtr 3 false true p2 (.int .i64 30)) b fun b c=>
 RR (sOp (.pick (.const a) (.const (.bool true)) (.const b)) 4) c fun a b=>
 d a b) (
 RR (sOp (.pick (.const a) (.const (.bool true)) (.const undef)) 4) b fun a b=>
 d a b))/\
 ∀ c _ _ _ _ _ _ _:Value,∀ e:World,d c e->
 CondV c (
 RR (bP 25 []) e fun a c=>
 RR (sOp (.store 25 (.const b) (.const a)) 0) c fun _ a=>
 (a4 Tryz.prog 25 b a fun b=>R (.returned (.tuple #[b,(.bool false)])) a)) (
 RR (sOp (.fieldAddr 25 (.const a) 0) 0) e fun c d=>
 RR (sOp (.load 3 (.const c)) 3) d fun c d=>
 RR (sOp (.fieldAddr 25 (.const a) 1) 0) d fun d e=>
 RR (sOp (.load 3 (.const d)) 3) e fun d e=>
 RR (sOp (.fieldAddr 25 (.const a) 2) 0) e fun e f=>
 RR (sOp (.load 9 (.const e)) 9) f fun e f=>
 RR (bP 25 [(0,c),(1,d),(2,e)]) f fun c d=>
 RR (sOp (.alloc 25) 0) d fun d e=>
 RR (sOp (.store 25 (.const d) (.const c)) 0) e fun _ c=>
 RR (sOp (.fieldAddr 25 (.const a) 3) 0) c fun a c=>
 RR (sOp (.load 23 (.const a)) 23) c fun a c=>
 RR (aE .len #[23] 3 [false] [a]) c fun c e=>
 (∃ (f:Value->World->Prop) (g:Value->World->Nat),f (.int .i64 0) e/\
 ∀ e _ _ _ _ _ _ _ _ _ _ _ _ _ _ _ _ _ _ _ _ _ _ _ _ _ _:Value,∀ h:World,f e h->
 RR (av .lss 3 false false e c) h fun c i=>
 CondV c (
 RR (sOp (.indexAddr 23 (.const a) (.const e)) 0) i fun a c=>
 RR (sOp (.load 25 (.const a)) 25) c fun a c=>
 RR (sOp (.alloc 25) 0) c fun c i=>
 RR (sOp (.store 25 (.const c) (.const a)) 0) i fun _ a=>
 RR (sOp (.load 25 (.const c)) 25) a fun a c=>
 RR (av .add 3 false true p2 (.int .i64 1)) c fun c i=>
 RR (aF (.func (.func 74) #[] #[]) [p0,a,c,p3]) i fun a c=>
 RR (sOp (.extract (.const a) 0) 25) c fun c i=>
 RR (sOp (.extract (.const a) 1) 4) i fun a i=>
 RR (sOp (.alloc 25) 0) i fun i j=>
 RR (sOp (.store 25 (.const i) (.const c)) 0) j fun _ c=>
 RR (sOp (.unOp .not 4 (.const a)) 4) c fun a c=>
 CondV a (
 RR (bP 25 []) c fun a c=>
 RR (sOp (.store 25 (.const b) (.const a)) 0) c fun _ a=>
 (a4 Tryz.prog 25 b a fun b=>R (.returned (.tuple #[b,(.bool false)])) a)) (
 RR (sOp (.fieldAddr 25 (.const d) 3) 0) c fun a b=>
 RR (sOp (.load 23 (.const a)) 23) b fun a b=>
 RR (sOp (.load 25 (.const i)) 25) b fun b c=>
 RR (aQ 23 1 [(0,b)]) c fun b c=>
 RR (aE .append #[23,23] 23 [false,false] [a,b]) c fun a b=>
 RR (sOp (.fieldAddr 25 (.const d) 3) 0) b fun b c=>
 RR (sOp (.store 23 (.const b) (.const a)) 0) c fun _ a=>
 RR (av .add 3 false true e (.int .i64 1)) a fun a b=>
 f a b/\g a b<g e h)) (
 RR (sOp (.load 25 (.const d)) 25) i fun a c=>
 RR (sOp (.store 25 (.const b) (.const a)) 0) c fun _ a=>
 (a4 Tryz.prog 25 b a fun b=>R (.returned (.tuple #[b,(.bool true)])) a)))))
theorem kZ {p0 p1 p2 p3:Value} {w:World} {R:Ending->World->Prop} (h:ja p0 p1 p2 p3 w R):Calls Tryz.prog 74 #[p0,p1,p2,p3] w R:=
  aK (.seq none .leaf (.seq none .leaf (.seq none .leaf (.seq none (.seq (some [30]) .leaf .leaf) (.seq none .leaf (.seq none (.seq none .leaf (.one (.loop [42] .leaf))) .leaf)))))) [p0,p1,p2,p3] bp Tryz.func74 (by kernel_rfl) (by kernel_rfl) h


/- loop.example/prologserver/spec.l4Goal : function 75 -/
def uY (p0:Value) (w:World) (R:Ending->World->Prop):Prop:=
 RR (sOp (.box 25 (.const p0)) 0) w fun a b=>
 RR (sOp (.load 25 (.const a)) 25) b fun b c=>
 RR (aF (.func (.func 103) #[] #[]) [b]) c fun b c=>
 ((fun d:VW=>ai b false (
 RR (sOp (.load 25 (.const a)) 25) c fun a c=>
 RR (aF (.func (.func 48) #[] #[]) [a]) c fun a c=>
 RR (sOp (.pick (.const b) (.const (.bool true)) (.const a)) 4) c fun a b=>d a b) (
 RR (sOp (.pick (.const b) (.const (.bool true)) (.const undef)) 4) c fun a b=>d a b)) fun b c=>
 ai b false (
 RR (sOp (.fieldAddr 25 (.const a) 0) 0) c fun c d=>
 RR (sOp (.load 3 (.const c)) 3) d fun c d=>
 RR (av .eql 3 false true c (.int .i64 3)) d fun c d=>
 ai c true (
 RR (sOp (.fieldAddr 25 (.const a) 2) 0) d fun d e=>
 RR (sOp (.load 9 (.const d)) 9) e fun d e=>
 RR (sOp (.fieldAddr 25 (.const a) 3) 0) e fun a e=>
 RR (sOp (.load 23 (.const a)) 23) e fun a e=>
 RR (aE .len #[23] 3 [false] [a]) e fun a e=>
 RR (aF (.func (.func 79) #[] #[]) [d,a]) e fun a d=>
 ai b false (
 RR (sOp (.pick (.const c) (.const a) (.const (.bool false))) 4) d fun a c=>
 RR (sOp (.pick (.const b) (.const (.bool true)) (.const a)) 4) c fun a b=>
 R (.returned a) b) (
 RR (sOp (.pick (.const b) (.const (.bool true)) (.const undef)) 4) d fun a b=>
 R (.returned a) b)) (
 ai b false (
 RR (sOp (.pick (.const c) (.const undef) (.const (.bool false))) 4) d fun a c=>
 RR (sOp (.pick (.const b) (.const (.bool true)) (.const a)) 4) c fun a b=>
 R (.returned a) b) (
 RR (sOp (.pick (.const b) (.const (.bool true)) (.const undef)) 4) d fun a b=>
 R (.returned a) b))) (
 ai undef true (
 RR (sOp (.fieldAddr 25 (.const a) 2) 0) c fun c d=>
 RR (sOp (.load 9 (.const c)) 9) d fun c d=>
 RR (sOp (.fieldAddr 25 (.const a) 3) 0) d fun a d=>
 RR (sOp (.load 23 (.const a)) 23) d fun a d=>
 RR (aE .len #[23] 3 [false] [a]) d fun a d=>
 RR (aF (.func (.func 79) #[] #[]) [c,a]) d fun a c=>
 ai b false (
 RR (sOp (.pick (.const undef) (.const a) (.const (.bool false))) 4) c fun a c=>
 RR (sOp (.pick (.const b) (.const (.bool true)) (.const a)) 4) c fun a b=>
 R (.returned a) b) (
 RR (sOp (.pick (.const b) (.const (.bool true)) (.const undef)) 4) c fun a b=>
 R (.returned a) b)) (
 ai b false (
 RR (sOp (.pick (.const undef) (.const undef) (.const (.bool false))) 4) c fun a c=>
 RR (sOp (.pick (.const b) (.const (.bool true)) (.const a)) 4) c fun a b=>
 R (.returned a) b) (
 RR (sOp (.pick (.const b) (.const (.bool true)) (.const undef)) 4) c fun a b=>
 R (.returned a) b))))
theorem yk {p0:Value} {w:World} {R:Ending->World->Prop} (h:uY p0 w R):Calls Tryz.prog 75 #[p0] w R:=
  aK .leaf [p0] bp Tryz.func75 (by kernel_rfl) (by kernel_rfl) h


/- loop.example/prologserver/spec.l1Shape : function 76 -/
def s4 (p0 p1:Value) (w:World) (R:Ending->World->Prop):Prop:=
 RR (sOp (.box 25 (.const p0)) 0) w fun a b=>
 (∃ c:Value->World->Prop,(
 RR (av .lss 3 false true p1 (.int .i64 1)) b fun b d=>
 ai b false (
 RR (sOp (.load 25 (.const a)) 25) d fun a d=>
 RR (aF (.func (.func 104) #[] #[]) [a]) d fun a d=>
 RR (sOp (.unOp .not 4 (.const a)) 4) d fun a d=>
 RR (sOp (.pick (.const b) (.const (.bool true)) (.const a)) 4) d fun a b=>
 c a b) (
 RR (sOp (.pick (.const b) (.const (.bool true)) (.const undef)) 4) d fun a b=>
 c a b))/\
 ∀ b _ _ _ _ _ _:Value,∀ d:World,c b d->
 CondV b (
 R (.returned (.bool false)) d) (
 (∃ (b:Value->World->Prop) (c:Value->World->Nat),b (.int .i64 0) d/\
 ∀ d _ _ _ _ _ _ _ _ _ _ _ _ _ _ _ _ _:Value,∀ e:World,b d e->
 RR (sOp (.fieldAddr 25 (.const a) 3) 0) e fun f g=>
 RR (sOp (.load 23 (.const f)) 23) g fun f g=>
 RR (aE .len #[23] 3 [false] [f]) g fun f g=>
 RR (av .lss 3 false false d f) g fun f g=>
 CondV f (
 RR (sOp (.fieldAddr 25 (.const a) 3) 0) g fun a f=>
 RR (sOp (.load 23 (.const a)) 23) f fun a f=>
 RR (sOp (.indexAddr 23 (.const a) (.const d)) 0) f fun a f=>
 RR (sOp (.load 25 (.const a)) 25) f fun a f=>
 RR (av .sub 3 false true p1 (.int .i64 1)) f fun f g=>
 RR (aF (.func (.func 76) #[] #[]) [a,f]) g fun a f=>
 RR (sOp (.unOp .not 4 (.const a)) 4) f fun a f=>
 CondV a (
 R (.returned (.bool false)) f) (
 RR (av .add 3 false true d (.int .i64 1)) f fun a f=>
 b a f/\c a f<c d e)) (
 R (.returned (.bool true)) g))))
theorem wg {p0 p1:Value} {w:World} {R:Ending->World->Prop} (h:s4 p0 p1 w R):Calls Tryz.prog 76 #[p0,p1] w R:=
  aK (.seq none .leaf (.seq none (.seq (some [12]) .leaf .leaf) (.seq none (.seq none .leaf (.one (.loop [5] .leaf))) .leaf))) [p0,p1] bp Tryz.func76 (by kernel_rfl) (by kernel_rfl) h


/- loop.example/prologserver/spec.l1Count : function 77 -/
def sQ (p0 p1:Value) (w:World) (R:Ending->World->Prop):Prop:=
 RR (sOp (.box 25 (.const p0)) 0) w fun a b=>
 (∃ (c:Value->Value->World->Prop) (d:Value->Value->World->Nat),c (.int .i64 0) (.int .i64 1) b/\
 ∀ b _ _ e _ _ _ _ _ _ _ _ _ _ _ _ _ _ _ _ _ _ _ _ _:Value,∀ f:World,c b e f->
 (∃ g:Value->World->Prop,(
 RR (sOp (.fieldAddr 25 (.const a) 3) 0) f fun a c=>
 RR (sOp (.load 23 (.const a)) 23) c fun a c=>
 RR (aE .len #[23] 3 [false] [a]) c fun a c=>
 RR (av .lss 3 false false b a) c fun a b=>
 ai a true (
 RR (av .leq 3 false false e p1) b fun b c=>
 RR (sOp (.pick (.const a) (.const b) (.const (.bool false))) 4) c fun a b=>
 g a b) (
 RR (sOp (.pick (.const a) (.const undef) (.const (.bool false))) 4) b fun a b=>
 g a b))/\
 ∀ h _ _ _ _ _ _ _ _ _:Value,∀ i:World,g h i->
 CondV h (
 RR (sOp (.fieldAddr 25 (.const a) 3) 0) i fun a g=>
 RR (sOp (.load 23 (.const a)) 23) g fun a g=>
 RR (sOp (.indexAddr 23 (.const a) (.const b)) 0) g fun a g=>
 RR (sOp (.load 25 (.const a)) 25) g fun a g=>
 RR (av .sub 3 false false p1 e) g fun g h=>
 RR (aF (.func (.func 77) #[] #[]) [a,g]) h fun a g=>
 RR (av .add 3 false false e a) g fun a g=>
 RR (av .add 3 false true b (.int .i64 1)) g fun g h=>
 c g a h/\d g a h<d b e f) (
 R (.returned e) i)))
theorem wU {p0 p1:Value} {w:World} {R:Ending->World->Prop} (h:sQ p0 p1 w R):Calls Tryz.prog 77 #[p0,p1] w R:=
  aK (.seq none .leaf (.seq none .leaf (.seq none (.seq none .leaf (.one (.loop [6,5] (.seq none (.seq (some [16]) .leaf .leaf) .leaf)))) .leaf))) [p0,p1] bp Tryz.func77 (by kernel_rfl) (by kernel_rfl) h


/- loop.example/prologserver/spec.l1Word : function 78 -/
def vH (p0:Value) (w:World) (R:Ending->World->Prop):Prop:=
 (∃ (a:Value->World->Prop) (b:Value->World->Nat),a (.int .i64 0) w/\
 ∀ c _ _ _ _ _ _ _ _ _ _ _ _ _ _ _ _ _:Value,∀ d:World,a c d->
 RR (aE .len #[9] 3 [false] [p0]) d fun e f=>
 RR (av .lss 3 false false c e) f fun e f=>
 CondV e (
 (∃ e:Value->World->Prop,(
 RR (sOp (.index 9 (.const p0) (.const c)) 5) f fun a b=>
 RR (av .lss 5 false true a (.int .u8 97)) b fun a b=>
 ai a false (
 RR (sOp (.index 9 (.const p0) (.const c)) 5) b fun b c=>
 RR (av .gtr 5 false true b (.int .u8 122)) c fun b c=>
 RR (sOp (.pick (.const a) (.const (.bool true)) (.const b)) 4) c fun a b=>
 e a b) (
 RR (sOp (.pick (.const a) (.const (.bool true)) (.const undef)) 4) b fun a b=>
 e a b))/\
 ∀ f _ _ _ _ _ _ _ _ _:Value,∀ g:World,e f g->
 CondV f (
 R (.returned (.bool false)) g) (
 RR (av .add 3 false true c (.int .i64 1)) g fun e f=>
 a e f/\b e f<b c d))) (
 RR (aE .len #[9] 3 [false] [p0]) f fun a b=>
 RR (av .geq 3 false true a (.int .i64 1)) b fun a b=>
 ai a true (
 RR (aE .len #[9] 3 [false] [p0]) b fun b c=>
 RR (av .leq 3 false true b (.int .i64 6)) c fun b c=>
 RR (sOp (.pick (.const a) (.const b) (.const (.bool false))) 4) c fun a b=>
 R (.returned a) b) (
 RR (sOp (.pick (.const a) (.const undef) (.const (.bool false))) 4) b fun a b=>
 R (.returned a) b)))
theorem yG {p0:Value} {w:World} {R:Ending->World->Prop} (h:vH p0 w R):Calls Tryz.prog 78 #[p0] w R:=
  aK (.seq none .leaf (.seq none (.seq none .leaf (.one (.loop [3] (.seq none .leaf (.seq none (.one (.seq (some [19]) .leaf .leaf)) .leaf))))) .leaf)) [p0] bp Tryz.func78 (by kernel_rfl) (by kernel_rfl) h


/- loop.example/prologserver/spec.IsBuiltin : function 79 -/
def nS (p0 p1:Value) (w:World) (R:Ending->World->Prop):Prop:=
 (∃ a:Value->World->Prop,(
 RR (av .eql 9 false true p0 (.string ⟨#[61]⟩)) w fun b c=>
 CondV b (
 a b c) (
 RR (av .eql 9 false true p0 (.string ⟨#[92,61]⟩)) c fun b c=>
 CondV b (
 a b c) (
 RR (av .eql 9 false true p0 (.string ⟨#[61,61]⟩)) c fun b c=>
 CondV b (
 a b c) (
 RR (av .eql 9 false true p0 (.string ⟨#[60]⟩)) c fun b c=>
 CondV b (
 a b c) (
 RR (av .eql 9 false true p0 (.string ⟨#[62]⟩)) c fun b c=>
 CondV b (
 a b c) (
 RR (av .eql 9 false true p0 (.string ⟨#[61,60]⟩)) c fun b c=>
 CondV b (
 a b c) (
 RR (av .eql 9 false true p0 (.string ⟨#[62,61]⟩)) c fun b c=>
 CondV b (
 a b c) (
 RR (av .eql 9 false true p0 (.string ⟨#[61,58,61]⟩)) c fun b c=>
 CondV b (
 a b c) (
 RR (av .eql 9 false true p0 (.string ⟨#[105,115]⟩)) c fun b c=>
 a b c)))))))))/\
 ∀ _ _ _ _ _ _ _ _ b _:Value,∀ c:World,a b c->
 CondV b (
 RR (av .eql 3 false true p1 (.int .i64 2)) c fun a b=>
 R (.returned a) b) (
 (∃ a:Value->World->Prop,(
 RR (av .eql 9 false true p0 (.string ⟨#[116,114,117,101]⟩)) c fun b c=>
 CondV b (
 a b c) (
 RR (av .eql 9 false true p0 (.string ⟨#[102,97,105,108]⟩)) c fun b c=>
 a b c))/\
 ∀ _ b _:Value,∀ c:World,a b c->
 CondV b (
 RR (av .eql 3 false true p1 (.int .i64 0)) c fun a b=>
 R (.returned a) b) (
 (∃ a:Value->World->Prop,(
 RR (av .eql 9 false true p0 (.string ⟨#[118,97,114]⟩)) c fun b c=>
 CondV b (
 a b c) (
 RR (av .eql 9 false true p0 (.string ⟨#[110,111,110,118,97,114]⟩)) c fun b c=>
 CondV b (
 a b c) (
 RR (av .eql 9 false true p0 (.string ⟨#[97,116,111,109]⟩)) c fun b c=>
 CondV b (
 a b c) (
 RR (av .eql 9 false true p0 (.string ⟨#[105,110,116]⟩)) c fun b c=>
 a b c))))/\
 ∀ _ _ _ b _:Value,∀ c:World,a b c->
 CondV b (
 RR (av .eql 3 false true p1 (.int .i64 1)) c fun a b=>
 R (.returned a) b) (
 RR (av .eql 9 false true p0 (.string ⟨#[97,114,103]⟩)) c fun a b=>
 CondV a (
 RR (av .eql 3 false true p1 (.int .i64 3)) b fun a b=>
 R (.returned a) b) (
 R (.returned (.bool false)) b)))))))
theorem qX {p0 p1:Value} {w:World} {R:Ending->World->Prop} (h:nS p0 p1 w R):Calls Tryz.prog 79 #[p0,p1] w R:=
  aK (.seq none .leaf (.seq none (.seq none .leaf (.one (.seq (some [6]) .leaf (.two .leaf (.seq (some [18]) .leaf (.two .leaf (.seq (some [23]) .leaf .leaf))))))) .leaf)) [p0,p1] bp Tryz.func79 (by kernel_rfl) (by kernel_rfl) h


/- loop.example/prologserver/spec.l2Level : function 80 -/
def q9 (p0:Value) (w:World) (R:Ending->World->Prop):Prop:=
 (∃ a:Value->World->Prop,(
 RR (av .eql 9 false true p0 (.string ⟨#[61]⟩)) w fun b c=>
 CondV b (
 a b c) (
 RR (av .eql 9 false true p0 (.string ⟨#[92,61]⟩)) c fun b c=>
 CondV b (
 a b c) (
 RR (av .eql 9 false true p0 (.string ⟨#[61,61]⟩)) c fun b c=>
 CondV b (
 a b c) (
 RR (av .eql 9 false true p0 (.string ⟨#[60]⟩)) c fun b c=>
 CondV b (
 a b c) (
 RR (av .eql 9 false true p0 (.string ⟨#[62]⟩)) c fun b c=>
 CondV b (
 a b c) (
 RR (av .eql 9 false true p0 (.string ⟨#[61,60]⟩)) c fun b c=>
 CondV b (
 a b c) (
 RR (av .eql 9 false true p0 (.string ⟨#[62,61]⟩)) c fun b c=>
 CondV b (
 a b c) (
 RR (av .eql 9 false true p0 (.string ⟨#[61,58,61]⟩)) c fun b c=>
 CondV b (
 a b c) (
 RR (av .eql 9 false true p0 (.string ⟨#[105,115]⟩)) c fun b c=>
 a b c)))))))))/\
 ∀ _ _ _ _ _ _ _ _ b _:Value,∀ c:World,a b c->
 CondV b (
 R (.returned (.int .i64 3)) c) (
 (∃ a:Value->World->Prop,(
 RR (av .eql 9 false true p0 (.string ⟨#[43]⟩)) c fun b c=>
 CondV b (
 a b c) (
 RR (av .eql 9 false true p0 (.string ⟨#[45]⟩)) c fun b c=>
 a b c))/\
 ∀ _ b _:Value,∀ c:World,a b c->
 CondV b (
 R (.returned (.int .i64 2)) c) (
 (∃ a:Value->World->Prop,(
 RR (av .eql 9 false true p0 (.string ⟨#[42]⟩)) c fun b c=>
 CondV b (
 a b c) (
 RR (av .eql 9 false true p0 (.string ⟨#[47,47]⟩)) c fun b c=>
 CondV b (
 a b c) (
 RR (av .eql 9 false true p0 (.string ⟨#[109,111,100]⟩)) c fun b c=>
 a b c)))/\
 ∀ _ _ b _:Value,∀ c:World,a b c->
 CondV b (
 R (.returned (.int .i64 1)) c) (
 R (.returned (.int .i64 0)) c))))))
theorem xk {p0:Value} {w:World} {R:Ending->World->Prop} (h:q9 p0 w R):Calls Tryz.prog 80 #[p0] w R:=
  aK (.seq none .leaf (.seq none (.seq none .leaf (.one (.seq (some [4]) .leaf (.two .leaf (.seq (some [14]) .leaf (.two .leaf (.seq (some [17]) .leaf .leaf))))))) .leaf)) [p0] bp Tryz.func80 (by kernel_rfl) (by kernel_rfl) h

end Go.Proofs.YtnmnddpdikghhaaGreat
