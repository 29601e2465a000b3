/- Made by program: the functions in a shallow form; each form gives Calls. -/
import Derived.Test.YtemmhhdnlbmicaaGreatZMgS
import Derived.Test.YtemmhhdnlbmicaaGreatProg
import Derived.Test.YtemmhhdnlbmicaaGreatZMgh0
import Derived.KernelRfl
set_option maxRecDepth 100000
namespace Go.Proofs.YtemmhhdnlbmicaaGreat
open Go
/- loop.example/prologserver/impl.scan$1 : function 128 -/
def wt (p0 p1 p2:Value) (w:World) (R:Ending->World->Prop):Prop:=
 RR (sOp (.box 25 (.const p0)) 0) w fun a b=>
 RR (sOp (.load 25 (.const a)) 25) b fun a b=>
 RR (sOp (.load 3 (.const p1)) 3) b fun b c=>
 RR (aq .add 3 false true b (.int .i64 1)) c fun b c=>
 RR (sOp (.load 91 (.const p2)) 91) c fun c d=>
 RR (aH (.func (.func 86) #[] #[]) [a,b,c]) d fun a b=>
 RR (sOp (.unOp .not 4 (.const a)) 4) b fun a b=>
 R (.returned a) b
theorem AC {p0 p1 p2:Value} {w:World} {R:Ending->World->Prop} (h:wt p0 p1 p2 w R):Calls Tryz.prog 128 #[p0,p1,p2] w R:=
  aK .leaf [p0,p1,p2] be Tryz.func128 (by kernel_rfl) (by kernel_rfl) h


/- loop.example/prologserver/impl.isFlat$1 : function 129 -/
def qq (p0:Value) (w:World) (R:Ending->World->Prop):Prop:=
 RR (sOp (.box 25 (.const p0)) 0) w fun a b=>
 RR (sOp (.fieldAddr 25 (.const a) 3) 0) b fun a b=>
 RR (sOp (.load 23 (.const a)) 23) b fun a b=>
 RR (ar .len #[23] 3 [false] [a]) b fun a b=>
 RR (aq .gtr 3 false true a (.int .i64 0)) b fun a b=>
 R (.returned a) b
theorem ux {p0:Value} {w:World} {R:Ending->World->Prop} (h:qq p0 w R):Calls Tryz.prog 129 #[p0] w R:=
  aK .leaf [p0] be Tryz.func129 (by kernel_rfl) (by kernel_rfl) h


/- slices.IndexFunc[[]int,int] : function 130 -/
def jN (p0 p1:Value) (w:World) (R:Ending->World->Prop):Prop:=
 RR (ar .len #[71] 3 [false] [p0]) w fun a b=>
 (∃ (c:Value->World->Prop) (d:Value->World->Nat),c (.int .i64 0) b/\
 ∀ b _ _ _ _ _ _ _ _ _ _ _ _:Value,∀ e:World,c b e->
 RR (aq .lss 3 false false b a) e fun a f=>
 CondV a (
 RR (sOp (.indexAddr 71 (.const p0) (.const b)) 0) f fun a f=>
 RR (sOp (.load 3 (.const a)) 3) f fun a f=>
 RR (aH p1 [a]) f fun a f=>
 CondV a (
 R (.returned b) f) (
 RR (aq .add 3 false true b (.int .i64 1)) f fun a f=>
 c a f/\d a f<d b e)) (
 R (.returned (.int .i64 (-1))) f))
theorem nz {p0 p1:Value} {w:World} {R:Ending->World->Prop} (h:jN p0 p1 w R):Calls Tryz.prog 130 #[p0,p1] w R:=
  aK (.seq none .leaf (.seq none (.seq none .leaf (.one (.loop [8] .leaf))) .leaf)) [p0,p1] be Tryz.func130 (by kernel_rfl) (by kernel_rfl) h


/- slices.Index[[]int,int] : function 131 -/
def pC (p0 p1:Value) (w:World) (R:Ending->World->Prop):Prop:=
 RR (ar .len #[71] 3 [false] [p0]) w fun a b=>
 (∃ (c:Value->World->Prop) (d:Value->World->Nat),c (.int .i64 0) b/\
 ∀ b _ _ _ _ _ _ _ _ _ _ _ _:Value,∀ e:World,c b e->
 RR (aq .lss 3 false false b a) e fun a f=>
 CondV a (
 RR (sOp (.indexAddr 71 (.const p0) (.const b)) 0) f fun a f=>
 RR (sOp (.load 3 (.const a)) 3) f fun a f=>
 RR (aq .eql 3 false false p1 a) f fun a f=>
 CondV a (
 R (.returned b) f) (
 RR (aq .add 3 false true b (.int .i64 1)) f fun a f=>
 c a f/\d a f<d b e)) (
 R (.returned (.int .i64 (-1))) f))
theorem sd {p0 p1:Value} {w:World} {R:Ending->World->Prop} (h:pC p0 p1 w R):Calls Tryz.prog 131 #[p0,p1] w R:=
  aK (.seq none .leaf (.seq none (.seq none .leaf (.one (.loop [8] .leaf))) .leaf)) [p0,p1] be Tryz.func131 (by kernel_rfl) (by kernel_rfl) h


/- loop.example/prologserver/impl.round$1 : function 132 -/
def tY (p0 p1:Value) (w:World) (R:Ending->World->Prop):Prop:=
 RR (sOp (.box 25 (.const p0)) 0) w fun a b=>
 RR (sOp (.load 23 (.const p1)) 23) b fun b c=>
 RR (sOp (.load 25 (.const a)) 25) c fun a c=>
 RR (aH (.func (.func 133) #[] #[]) [b,a]) c fun a b=>
 RR (sOp (.store 23 (.const p1) (.const a)) 0) b fun _ a=>
 R (.returned (.tuple #[])) a
theorem xu {p0 p1:Value} {w:World} {R:Ending->World->Prop} (h:tY p0 p1 w R):Calls Tryz.prog 132 #[p0,p1] w R:=
  aK .leaf [p0,p1] be Tryz.func132 (by kernel_rfl) (by kernel_rfl) h


/- loop.example/prologserver/impl.insert : function 133 -/
def vZ (p0 p1:Value) (w:World) (R:Ending->World->Prop):Prop:=
 RR (sOp (.box 25 (.const p1)) 0) w fun a b=>
 RR (sOp (.load 25 (.const a)) 25) b fun b c=>
 RR (aH (.func (.func 159) #[] #[]) [p0,b,(.func (.func 63) #[] #[])]) c fun b c=>
 RR (sOp (.extract (.const b) 0) 3) c fun c d=>
 RR (sOp (.extract (.const b) 1) 4) d fun b d=>
 CondV b (
 R (.returned p0) d) (
 RR (sOp (.load 25 (.const a)) 25) d fun a b=>
 RR (aH (.func (.func 81) #[] #[]) [a]) b fun a b=>
 RR (aS 23 1 [(0,a)]) b fun a b=>
 RR (aH (.func (.func 160) #[] #[]) [p0,c,a]) b fun a b=>
 R (.returned a) b)
theorem Aw {p0 p1:Value} {w:World} {R:Ending->World->Prop} (h:vZ p0 p1 w R):Calls Tryz.prog 133 #[p0,p1] w R:=
  aK .leaf [p0,p1] be Tryz.func133 (by kernel_rfl) (by kernel_rfl) h


/- loop.example/prologserver/spec.GoalValid : function 134 -/
def pr (p0:Value) (w:World) (R:Ending->World->Prop):Prop:=
 RR (sOp (.box 25 (.const p0)) 0) w fun a b=>
 RR (sOp (.load 25 (.const a)) 25) b fun b c=>
 RR (aH (.func (.func 84) #[] #[]) [b]) c fun b c=>
 aj b true (
 RR (sOp (.load 25 (.const a)) 25) c fun a c=>
 RR (aH (.func (.func 161) #[] #[]) [a]) c fun a c=>
 RR (sOp (.pick (.const b) (.const a) (.const (.bool false))) 4) c fun a b=>
 R (.returned a) b) (
 RR (sOp (.pick (.const b) (.const undef) (.const (.bool false))) 4) c fun a b=>
 R (.returned a) b)
theorem sX {p0:Value} {w:World} {R:Ending->World->Prop} (h:pr p0 w R):Calls Tryz.prog 134 #[p0] w R:=
  aK .leaf [p0] be Tryz.func134 (by kernel_rfl) (by kernel_rfl) h


/- loop.example/prologserver/spec.l4Plain : function 135 -/
def tg (p0:Value) (w:World) (R:Ending->World->Prop):Prop:=
 RR (sOp (.box 25 (.const p0)) 0) w fun a b=>
 RR (sOp (.fieldAddr 25 (.const a) 0) 0) b fun b c=>
 RR (sOp (.load 3 (.const b)) 3) c fun b c=>
 RR (aq .eql 3 false true b (.int .i64 3)) c fun b c=>
 ((fun d:VW=>aj b true (
 RR (sOp (.fieldAddr 25 (.const a) 2) 0) c fun a c=>
 RR (sOp (.load 9 (.const a)) 9) c fun a c=>
 RR (aH (.func (.func 162) #[] #[]) [a]) c fun a c=>
 RR (sOp (.pick (.const b) (.const a) (.const (.bool false))) 4) c fun a b=>d a b) (
 RR (sOp (.pick (.const b) (.const undef) (.const (.bool false))) 4) c fun a b=>d a b)) fun b c=>
 ((fun d:VW=>aj b true (
 RR (sOp (.fieldAddr 25 (.const a) 2) 0) c fun c e=>
 RR (sOp (.load 9 (.const c)) 9) e fun c e=>
 RR (sOp (.fieldAddr 25 (.const a) 3) 0) e fun a e=>
 RR (sOp (.load 23 (.const a)) 23) e fun a e=>
 RR (ar .len #[23] 3 [false] [a]) e fun a e=>
 RR (aH (.func (.func 163) #[] #[]) [c,a]) e fun a c=>
 RR (sOp (.unOp .not 4 (.const a)) 4) c fun a c=>
 RR (sOp (.pick (.const b) (.const a) (.const (.bool false))) 4) c fun a b=>d a b) (
 RR (sOp (.pick (.const b) (.const undef) (.const (.bool false))) 4) c fun a b=>d a b)) fun b c=>
 aj b true (
 RR (sOp (.fieldAddr 25 (.const a) 2) 0) c fun a c=>
 RR (sOp (.load 9 (.const a)) 9) c fun a c=>
 RR (aH (.func (.func 164) #[] #[]) [a]) c fun a c=>
 RR (aq .eql 3 false true a (.int .i64 0)) c fun a c=>
 RR (sOp (.pick (.const b) (.const a) (.const (.bool false))) 4) c fun a b=>
 R (.returned a) b) (
 RR (sOp (.pick (.const b) (.const undef) (.const (.bool false))) 4) c fun a b=>
 R (.returned a) b)))
theorem xo {p0:Value} {w:World} {R:Ending->World->Prop} (h:tg p0 w R):Calls Tryz.prog 135 #[p0] w R:=
  aK .leaf [p0] be Tryz.func135 (by kernel_rfl) (by kernel_rfl) h


/- loop.example/prologserver/impl.OpLevel : function 136 -/
def rX (p0:Value) (w:World) (R:Ending->World->Prop):Prop:=
 (∃ a:Value->World->Prop,(
 RR (aq .eql 9 false true p0 (.string ⟨#[61]⟩)) w fun b c=>
 CondV b (
 a b c) (
 RR (aq .eql 9 false true p0 (.string ⟨#[92,61]⟩)) c fun b c=>
 CondV b (
 a b c) (
 RR (aq .eql 9 false true p0 (.string ⟨#[61,61]⟩)) c fun b c=>
 CondV b (
 a b c) (
 RR (aq .eql 9 false true p0 (.string ⟨#[60]⟩)) c fun b c=>
 CondV b (
 a b c) (
 RR (aq .eql 9 false true p0 (.string ⟨#[62]⟩)) c fun b c=>
 CondV b (
 a b c) (
 RR (aq .eql 9 false true p0 (.string ⟨#[61,60]⟩)) c fun b c=>
 CondV b (
 a b c) (
 RR (aq .eql 9 false true p0 (.string ⟨#[62,61]⟩)) c fun b c=>
 CondV b (
 a b c) (
 RR (aq .eql 9 false true p0 (.string ⟨#[61,58,61]⟩)) c fun b c=>
 CondV b (
 a b c) (
 RR (aq .eql 9 false true p0 (.string ⟨#[105,115]⟩)) c fun b c=>
 a b c)))))))))/\
 ∀ _ _ _ _ _ _ _ _ b _:Value,∀ c:World,a b c->
 CondV b (
 R (.returned (.tuple #[(.int .i64 3),(.bool false)])) c) (
 (∃ a:Value->World->Prop,(
 RR (aq .eql 9 false true p0 (.string ⟨#[43]⟩)) c fun b c=>
 CondV b (
 a b c) (
 RR (aq .eql 9 false true p0 (.string ⟨#[45]⟩)) c fun b c=>
 a b c))/\
 ∀ _ b _:Value,∀ c:World,a b c->
 CondV b (
 R (.returned (.tuple #[(.int .i64 2),(.bool true)])) c) (
 (∃ a:Value->World->Prop,(
 RR (aq .eql 9 false true p0 (.string ⟨#[42]⟩)) c fun b c=>
 CondV b (
 a b c) (
 RR (aq .eql 9 false true p0 (.string ⟨#[47,47]⟩)) c fun b c=>
 CondV b (
 a b c) (
 RR (aq .eql 9 false true p0 (.string ⟨#[109,111,100]⟩)) c fun b c=>
 a b c)))/\
 ∀ _ _ b _:Value,∀ c:World,a b c->
 CondV b (
 R (.returned (.tuple #[(.int .i64 1),(.bool true)])) c) (
 R (.returned (.tuple #[(.int .i64 0),(.bool false)])) c))))))
theorem xB {p0:Value} {w:World} {R:Ending->World->Prop} (h:rX p0 w R):Calls Tryz.prog 136 #[p0] w R:=
  aK (.seq none .leaf (.seq none (.seq none .leaf (.one (.seq (some [5]) .leaf (.two .leaf (.seq (some [15]) .leaf (.two .leaf (.seq (some [18]) .leaf .leaf))))))) .leaf)) [p0] be Tryz.func136 (by kernel_rfl) (by kernel_rfl) h


/- loop.example/prologserver/impl.IsBuiltin : function 137 -/
def oy (p0 p1:Value) (w:World) (R:Ending->World->Prop):Prop:=
 (∃ a:Value->World->Prop,(
 RR (aq .eql 9 false true p0 (.string ⟨#[61]⟩)) w fun b c=>
 CondV b (
 a b c) (
 RR (aq .eql 9 false true p0 (.string ⟨#[92,61]⟩)) c fun b c=>
 CondV b (
 a b c) (
 RR (aq .eql 9 false true p0 (.string ⟨#[61,61]⟩)) c fun b c=>
 CondV b (
 a b c) (
 RR (aq .eql 9 false true p0 (.string ⟨#[60]⟩)) c fun b c=>
 CondV b (
 a b c) (
 RR (aq .eql 9 false true p0 (.string ⟨#[62]⟩)) c fun b c=>
 CondV b (
 a b c) (
 RR (aq .eql 9 false true p0 (.string ⟨#[61,60]⟩)) c fun b c=>
 CondV b (
 a b c) (
 RR (aq .eql 9 false true p0 (.string ⟨#[62,61]⟩)) c fun b c=>
 CondV b (
 a b c) (
 RR (aq .eql 9 false true p0 (.string ⟨#[61,58,61]⟩)) c fun b c=>
 CondV b (
 a b c) (
 RR (aq .eql 9 false true p0 (.string ⟨#[105,115]⟩)) c fun b c=>
 a b c)))))))))/\
 ∀ _ _ _ _ _ _ _ _ b _:Value,∀ c:World,a b c->
 CondV b (
 RR (aq .eql 3 false true p1 (.int .i64 2)) c fun a b=>
 R (.returned a) b) (
 (∃ a:Value->World->Prop,(
 RR (aq .eql 9 false true p0 (.string ⟨#[116,114,117,101]⟩)) c fun b c=>
 CondV b (
 a b c) (
 RR (aq .eql 9 false true p0 (.string ⟨#[102,97,105,108]⟩)) c fun b c=>
 a b c))/\
 ∀ _ b _:Value,∀ c:World,a b c->
 CondV b (
 RR (aq .eql 3 false true p1 (.int .i64 0)) c fun a b=>
 R (.returned a) b) (
 (∃ a:Value->World->Prop,(
 RR (aq .eql 9 false true p0 (.string ⟨#[118,97,114]⟩)) c fun b c=>
 CondV b (
 a b c) (
 RR (aq .eql 9 false true p0 (.string ⟨#[110,111,110,118,97,114]⟩)) c fun b c=>
 CondV b (
 a b c) (
 RR (aq .eql 9 false true p0 (.string ⟨#[97,116,111,109]⟩)) c fun b c=>
 CondV b (
 a b c) (
 RR (aq .eql 9 false true p0 (.string ⟨#[105,110,116]⟩)) c fun b c=>
 a b c))))/\
 ∀ _ _ _ b _:Value,∀ c:World,a b c->
 CondV b (
 RR (aq .eql 3 false true p1 (.int .i64 1)) c fun a b=>
 R (.returned a) b) (
 RR (aq .eql 9 false true p0 (.string ⟨#[97,114,103]⟩)) c fun a b=>
 CondV a (
 RR (aq .eql 3 false true p1 (.int .i64 3)) b fun a b=>
 R (.returned a) b) (
 R (.returned (.bool false)) b)))))))
theorem sV {p0 p1:Value} {w:World} {R:Ending->World->Prop} (h:oy p0 p1 w R):Calls Tryz.prog 137 #[p0,p1] w R:=
  aK (.seq none .leaf (.seq none (.seq none .leaf (.one (.seq (some [6]) .leaf (.two .leaf (.seq (some [18]) .leaf (.two .leaf (.seq (some [23]) .leaf .leaf))))))) .leaf)) [p0,p1] be Tryz.func137 (by kernel_rfl) (by kernel_rfl) h


/- loop.example/prologserver/impl.goalsValid$1 : function 138 -/
def ln (p0:Value) (w:World) (R:Ending->World->Prop):Prop:=
 RR (sOp (.box 25 (.const p0)) 0) w fun a b=>
 RR (sOp (.load 25 (.const a)) 25) b fun a b=>
 RR (aH (.func (.func 139) #[] #[]) [a]) b fun a b=>
 RR (sOp (.unOp .not 4 (.const a)) 4) b fun a b=>
 R (.returned a) b
theorem oq {p0:Value} {w:World} {R:Ending->World->Prop} (h:ln p0 w R):Calls Tryz.prog 138 #[p0] w R:=
  aK .leaf [p0] be Tryz.func138 (by kernel_rfl) (by kernel_rfl) h


/- loop.example/prologserver/impl.GoalValid : function 139 -/
def oH (p0:Value) (w:World) (R:Ending->World->Prop):Prop:=
 RR (sOp (.box 25 (.const p0)) 0) w fun a b=>
 RR (sOp (.load 25 (.const a)) 25) b fun b c=>
 RR (aH (.func (.func 43) #[] #[]) [b]) c fun b c=>
 aj b true (
 RR (sOp (.load 25 (.const a)) 25) c fun c d=>
 RR (aH (.func (.func 54) #[] #[]) [c]) d fun c d=>
 aj c false (
 RR (sOp (.load 25 (.const a)) 25) d fun d e=>
 RR (aH (.func (.func 103) #[] #[]) [d]) e fun d e=>
 aj b true (
 RR (sOp (.pick (.const c) (.const (.bool true)) (.const d)) 4) e fun c d=>
 aj c false (
 RR (sOp (.load 25 (.const a)) 25) d fun a d=>
 RR (aH (.func (.func 165) #[] #[]) [a]) d fun a d=>
 aj b true (
 RR (sOp (.pick (.const c) (.const (.bool true)) (.const a)) 4) d fun a c=>
 RR (sOp (.pick (.const b) (.const a) (.const (.bool false))) 4) c fun a b=>
 R (.returned a) b) (
 RR (sOp (.pick (.const b) (.const undef) (.const (.bool false))) 4) d fun a b=>
 R (.returned a) b)) (
 aj b true (
 RR (sOp (.pick (.const c) (.const (.bool true)) (.const undef)) 4) d fun a c=>
 RR (sOp (.pick (.const b) (.const a) (.const (.bool false))) 4) c fun a b=>
 R (.returned a) b) (
 RR (sOp (.pick (.const b) (.const undef) (.const (.bool false))) 4) d fun a b=>
 R (.returned a) b))) (
 aj undef false (
 RR (sOp (.load 25 (.const a)) 25) e fun a c=>
 RR (aH (.func (.func 165) #[] #[]) [a]) c fun a c=>
 aj b true (
 RR (sOp (.pick (.const undef) (.const (.bool true)) (.const a)) 4) c fun a c=>
 RR (sOp (.pick (.const b) (.const a) (.const (.bool false))) 4) c fun a b=>
 R (.returned a) b) (
 RR (sOp (.pick (.const b) (.const undef) (.const (.bool false))) 4) c fun a b=>
 R (.returned a) b)) (
 aj b true (
 RR (sOp (.pick (.const undef) (.const (.bool true)) (.const undef)) 4) e fun a c=>
 RR (sOp (.pick (.const b) (.const a) (.const (.bool false))) 4) c fun a b=>
 R (.returned a) b) (
 RR (sOp (.pick (.const b) (.const undef) (.const (.bool false))) 4) e fun a b=>
 R (.returned a) b)))) (
 aj b true (
 RR (sOp (.pick (.const c) (.const (.bool true)) (.const undef)) 4) d fun c d=>
 aj c false (
 RR (sOp (.load 25 (.const a)) 25) d fun a d=>
 RR (aH (.func (.func 165) #[] #[]) [a]) d fun a d=>
 aj b true (
 RR (sOp (.pick (.const c) (.const (.bool true)) (.const a)) 4) d fun a c=>
 RR (sOp (.pick (.const b) (.const a) (.const (.bool false))) 4) c fun a b=>
 R (.returned a) b) (
 RR (sOp (.pick (.const b) (.const undef) (.const (.bool false))) 4) d fun a b=>
 R (.returned a) b)) (
 aj b true (
 RR (sOp (.pick (.const c) (.const (.bool true)) (.const undef)) 4) d fun a c=>
 RR (sOp (.pick (.const b) (.const a) (.const (.bool false))) 4) c fun a b=>
 R (.returned a) b) (
 RR (sOp (.pick (.const b) (.const undef) (.const (.bool false))) 4) d fun a b=>
 R (.returned a) b))) (
 aj undef false (
 RR (sOp (.load 25 (.const a)) 25) d fun a c=>
 RR (aH (.func (.func 165) #[] #[]) [a]) c fun a c=>
 aj b true (
 RR (sOp (.pick (.const undef) (.const (.bool true)) (.const a)) 4) c fun a c=>
 RR (sOp (.pick (.const b) (.const a) (.const (.bool false))) 4) c fun a b=>
 R (.returned a) b) (
 RR (sOp (.pick (.const b) (.const undef) (.const (.bool false))) 4) c fun a b=>
 R (.returned a) b)) (
 aj b true (
 RR (sOp (.pick (.const undef) (.const (.bool true)) (.const undef)) 4) d fun a c=>
 RR (sOp (.pick (.const b) (.const a) (.const (.bool false))) 4) c fun a b=>
 R (.returned a) b) (
 RR (sOp (.pick (.const b) (.const undef) (.const (.bool false))) 4) d fun a b=>
 R (.returned a) b))))) (
 aj undef false (
 RR (sOp (.load 25 (.const a)) 25) c fun c d=>
 RR (aH (.func (.func 103) #[] #[]) [c]) d fun c d=>
 aj b true (
 RR (sOp (.pick (.const undef) (.const (.bool true)) (.const c)) 4) d fun c d=>
 aj c false (
 RR (sOp (.load 25 (.const a)) 25) d fun a d=>
 RR (aH (.func (.func 165) #[] #[]) [a]) d fun a d=>
 aj b true (
 RR (sOp (.pick (.const c) (.const (.bool true)) (.const a)) 4) d fun a c=>
 RR (sOp (.pick (.const b) (.const a) (.const (.bool false))) 4) c fun a b=>
 R (.returned a) b) (
 RR (sOp (.pick (.const b) (.const undef) (.const (.bool false))) 4) d fun a b=>
 R (.returned a) b)) (
 aj b true (
 RR (sOp (.pick (.const c) (.const (.bool true)) (.const undef)) 4) d fun a c=>
 RR (sOp (.pick (.const b) (.const a) (.const (.bool false))) 4) c fun a b=>
 R (.returned a) b) (
 RR (sOp (.pick (.const b) (.const undef) (.const (.bool false))) 4) d fun a b=>
 R (.returned a) b))) (
 aj undef false (
 RR (sOp (.load 25 (.const a)) 25) d fun a c=>
 RR (aH (.func (.func 165) #[] #[]) [a]) c fun a c=>
 aj b true (
 RR (sOp (.pick (.const undef) (.const (.bool true)) (.const a)) 4) c fun a c=>
 RR (sOp (.pick (.const b) (.const a) (.const (.bool false))) 4) c fun a b=>
 R (.returned a) b) (
 RR (sOp (.pick (.const b) (.const undef) (.const (.bool false))) 4) c fun a b=>
 R (.returned a) b)) (
 aj b true (
 RR (sOp (.pick (.const undef) (.const (.bool true)) (.const undef)) 4) d fun a c=>
 RR (sOp (.pick (.const b) (.const a) (.const (.bool false))) 4) c fun a b=>
 R (.returned a) b) (
 RR (sOp (.pick (.const b) (.const undef) (.const (.bool false))) 4) d fun a b=>
 R (.returned a) b)))) (
 aj b true (
 RR (sOp (.pick (.const undef) (.const (.bool true)) (.const undef)) 4) c fun c d=>
 aj c false (
 RR (sOp (.load 25 (.const a)) 25) d fun a d=>
 RR (aH (.func (.func 165) #[] #[]) [a]) d fun a d=>
 aj b true (
 RR (sOp (.pick (.const c) (.const (.bool true)) (.const a)) 4) d fun a c=>
 RR (sOp (.pick (.const b) (.const a) (.const (.bool false))) 4) c fun a b=>
 R (.returned a) b) (
 RR (sOp (.pick (.const b) (.const undef) (.const (.bool false))) 4) d fun a b=>
 R (.returned a) b)) (
 aj b true (
 RR (sOp (.pick (.const c) (.const (.bool true)) (.const undef)) 4) d fun a c=>
 RR (sOp (.pick (.const b) (.const a) (.const (.bool false))) 4) c fun a b=>
 R (.returned a) b) (
 RR (sOp (.pick (.const b) (.const undef) (.const (.bool false))) 4) d fun a b=>
 R (.returned a) b))) (
 aj undef false (
 RR (sOp (.load 25 (.const a)) 25) c fun a c=>
 RR (aH (.func (.func 165) #[] #[]) [a]) c fun a c=>
 aj b true (
 RR (sOp (.pick (.const undef) (.const (.bool true)) (.const a)) 4) c fun a c=>
 RR (sOp (.pick (.const b) (.const a) (.const (.bool false))) 4) c fun a b=>
 R (.returned a) b) (
 RR (sOp (.pick (.const b) (.const undef) (.const (.bool false))) 4) c fun a b=>
 R (.returned a) b)) (
 aj b true (
 RR (sOp (.pick (.const undef) (.const (.bool true)) (.const undef)) 4) c fun a c=>
 RR (sOp (.pick (.const b) (.const a) (.const (.bool false))) 4) c fun a b=>
 R (.returned a) b) (
 RR (sOp (.pick (.const b) (.const undef) (.const (.bool false))) 4) c fun a b=>
 R (.returned a) b)))))
theorem r5 {p0:Value} {w:World} {R:Ending->World->Prop} (h:oH p0 w R):Calls Tryz.prog 139 #[p0] w R:=
  aK .leaf [p0] be Tryz.func139 (by kernel_rfl) (by kernel_rfl) h


/- loop.example/prologserver/spec.l4Copy : function 140 -/
def oF (p0:Value) (w:World) (R:Ending->World->Prop):Prop:=
 RR (sOp (.box 39 (.const p0)) 0) w fun a b=>
 RR (sOp (.alloc 39) 0) b fun b c=>
 RR (sOp (.fieldAddr 39 (.const a) 0) 0) c fun c d=>
 RR (sOp (.load 25 (.const c)) 25) d fun c d=>
 RR (aH (.func (.func 42) #[] #[]) [c]) d fun c d=>
 RR (dy 39 [(0,c)]) d fun c d=>
 RR (sOp (.alloc 39) 0) d fun d e=>
 RR (sOp (.store 39 (.const d) (.const c)) 0) e fun _ c=>
 (∃ (e:Value->World->Prop) (f:Value->World->Nat),e (.int .i64 0) c/\
 ∀ c _ _ g h i j k l m n o p q _ _ _ _ _:Value,∀ r:World,e c r->
 RR (sOp (.fieldAddr 39 (.const a) 1) 0) r fun s t=>
 RR (sOp (.load 23 (.const s)) 23) t fun s t=>
 RR (ar .len #[23] 3 [false] [s]) t fun s t=>
 RR (aq .lss 3 false false c s) t fun s t=>
 CondV s (
 (∃ b:(Nat->Bool)->Value->Value->Value->Value->Value->Value->Value->Value->Value->Value->Value->World->Prop,b (fun _=>false) g h i j k l m n o p q { t with drawn:=t.drawn+1 }/\(
 (∀ a:Nat->Bool,a 0=false->∀ c e f g h i j k l m n o,b a c e f g h i j k l m n o->
 RR (sOp (.fieldAddr 39 (.const d) 1) 0) o fun d n=>
 b (ay a 0) c e f g h i j k l m d n)/\
 (∀ a:Nat->Bool,a 1=false->a 0=true->∀ c d e f g h i j k l m n,b a c d e f g h i j k l m n->
 RR (sOp (.load 23 (.const m)) 23) n fun l n=>
 b (ay a 1) c d e f g h i j k l m n)/\
 (∀ c:Nat->Bool,c 2=false->∀ d e f g h i j k l m n o,b c d e f g h i j k l m n o->
 RR (sOp (.fieldAddr 39 (.const a) 1) 0) o fun a l=>
 b (ay c 2) d e f g h i j k a m n l)/\
 (∀ a:Nat->Bool,a 3=false->a 2=true->∀ c d e f g h i j k l m n,b a c d e f g h i j k l m n->
 RR (sOp (.load 23 (.const k)) 23) n fun j n=>
 b (ay a 3) c d e f g h i j k l m n)/\
 (∀ a:Nat->Bool,a 4=false->∀ d e f g h i j k l m n o,b a d e f g h i j k l m n o->
 b (ay a 4) d e f g h i c k l m n o)/\
 (∀ a:Nat->Bool,a 5=false->a 3=true->a 4=true->∀ c d e f g h i j k l m n,b a c d e f g h i j k l m n->
 RR (sOp (.indexAddr 23 (.const j) (.const i)) 0) n fun h n=>
 b (ay a 5) c d e f g h i j k l m n)/\
 (∀ a:Nat->Bool,a 6=false->a 5=true->∀ c d e f g h i j k l m n,b a c d e f g h i j k l m n->
 RR (sOp (.load 25 (.const h)) 25) n fun g n=>
 b (ay a 6) c d e f g h i j k l m n)/\
 (∀ a:Nat->Bool,a 7=false->a 6=true->∀ c d e f g h i j k l m n,b a c d e f g h i j k l m n->
 RR (aH (.func (.func 42) #[] #[]) [g]) n fun f n=>
 b (ay a 7) c d e f g h i j k l m n)/\
 (∀ a:Nat->Bool,a 8=false->a 7=true->∀ c d e f g h i j k l m n,b a c d e f g h i j k l m n->
 RR (aS 23 1 [(0,f)]) n fun e n=>
 b (ay a 8) c d e f g h i j k l m n)/\
 (∀ a:Nat->Bool,a 9=false->a 1=true->a 8=true->a 7=true->∀ c d e f g h i j k l m n,b a c d e f g h i j k l m n->
 RR (ar .append #[23,23] 23 [false,false] [l,e]) n fun d n=>
 b (ay a 9) c d e f g h i j k l m n)/\
 (∀ a:Nat->Bool,a 10=false->a 0=true->a 1=true->a 2=true->a 3=true->a 4=true->a 5=true->a 6=true->a 7=true->a 8=true->a 9=true->∀ c e f g h i j k l m n o,b a c e f g h i j k l m n o->
 RR (sOp (.fieldAddr 39 (.const d) 1) 0) o fun c d=>
 b (ay a 10) c e f g h i j k l m n d)/\
 (∀ a:Nat->Bool,a 11=false->a 10=true->a 9=true->a 9=true->a 0=true->a 1=true->a 2=true->a 3=true->a 4=true->a 5=true->a 6=true->a 7=true->a 8=true->a 9=true->∀ c d e f g h i j k l m n,b a c d e f g h i j k l m n->
 RR (sOp (.store 23 (.const c) (.const d)) 0) n fun _ n=>
 b (ay a 11) c d e f g h i j k l m n)/\
 True)/\
 ∀ a:Nat->Bool,a 11=true->a 10=true->a 9=true->a 8=true->a 7=true->a 6=true->a 5=true->a 4=true->a 3=true->a 2=true->a 1=true->a 0=true->∀ d g h i j k l m n o p q,b a d g h i j k l m n o p q->
 RR (aq .add 3 false true c (.int .i64 1)) q fun a b=>
 e a b/\f a b<f c r)) (
 RR (sOp (.load 39 (.const d)) 39) t fun a c=>
 RR (sOp (.store 39 (.const b) (.const a)) 0) c fun _ a=>
 (bd Tryz.prog 39 b a fun b=>R (.returned b) a)))
theorem nU {p0:Value} {w:World} {R:Ending->World->Prop} (h:oF p0 w R):Calls Tryz.prog 140 #[p0] w R:=
  aK (.seq none .leaf (.seq none .leaf (.seq none (.seq none .leaf (.one (.loop [4] .leaf))) .leaf))) [p0] be Tryz.func140 (by kernel_rfl) (by kernel_rfl) h


/- loop.example/prologserver/spec.l1Some : function 141 -/
def v8 (p0:Value) (w:World) (R:Ending->World->Prop):Prop:=
 RR (sOp (.alloc 25) 0) w fun a b=>
 RR (aS 71 4 [(0,(.int .i64 3)),(1,(.int .i64 2)),(2,(.int .i64 4)),(3,(.int .i64 1))]) b fun b c=>
 RR (aH (.func (.func 61) #[] #[]) [p0,b]) c fun b c=>
 RR (aH (.func (.func 166) #[] #[]) [p0,b]) c fun b c=>
 RR (sOp (.store 25 (.const a) (.const b)) 0) c fun _ b=>
 (bd Tryz.prog 25 a b fun a=>R (.returned a) b)
theorem zF {p0:Value} {w:World} {R:Ending->World->Prop} (h:v8 p0 w R):Calls Tryz.prog 141 #[p0] w R:=
  aK .leaf [p0] be Tryz.func141 (by kernel_rfl) (by kernel_rfl) h


/- cmp.isNaN[int] : function 142 -/
def o7 (p0:Value) (w:World) (R:Ending->World->Prop):Prop:=
 RR (aq .neq 3 false false p0 p0) w fun a b=>
 R (.returned a) b
theorem sC {p0:Value} {w:World} {R:Ending->World->Prop} (h:o7 p0 w R):Calls Tryz.prog 142 #[p0] w R:=
  aK .leaf [p0] be Tryz.func142 (by kernel_rfl) (by kernel_rfl) h


/- cmp.isNaN[string] : function 143 -/
def kJ (p0:Value) (w:World) (R:Ending->World->Prop):Prop:=
 RR (aq .neq 9 false false p0 p0) w fun a b=>
 R (.returned a) b
theorem ou {p0:Value} {w:World} {R:Ending->World->Prop} (h:kJ p0 w R):Calls Tryz.prog 143 #[p0] w R:=
  aK .leaf [p0] be Tryz.func143 (by kernel_rfl) (by kernel_rfl) h


/- loop.example/prologserver/spec.l1Compare : function 145 -/
def oL (p0 p1:Value) (w:World) (R:Ending->World->Prop):Prop:=
 RR (sOp (.box 25 (.const p0)) 0) w fun a b=>
 RR (sOp (.box 25 (.const p1)) 0) b fun b c=>
 (∃ d:(Nat->Bool)->Value->Value->Value->Value->Value->World->Prop,d (fun _=>false) undef undef undef undef undef { c with drawn:=c.drawn+1 }/\(
 (∀ b:Nat->Bool,b 0=false->∀ c e f g h i,d b c e f g h i->
 RR (sOp (.load 25 (.const a)) 25) i fun a h=>
 d (ay b 0) c e f g a h)/\
 (∀ a:Nat->Bool,a 1=false->a 0=true->∀ b c e f g h,d a b c e f g h->
 RR (aH (.func (.func 167) #[] #[]) [g]) h fun f h=>
 d (ay a 1) b c e f g h)/\
 (∀ a:Nat->Bool,a 2=false->∀ c e f g h i,d a c e f g h i->
 RR (sOp (.load 25 (.const b)) 25) i fun b f=>
 d (ay a 2) c e b g h f)/\
 (∀ a:Nat->Bool,a 3=false->a 2=true->a 1=true->∀ b c e f g h,d a b c e f g h->
 RR (aH (.func (.func 167) #[] #[]) [e]) h fun c h=>
 d (ay a 3) b c e f g h)/\
 (∀ a:Nat->Bool,a 4=false->a 1=true->a 3=true->∀ b c e f g h,d a b c e f g h->
 RR (aq .neq 3 false false f c) h fun b h=>
 d (ay a 4) b c e f g h)/\
 True)/\
 ∀ c:Nat->Bool,c 4=true->c 3=true->c 2=true->c 1=true->c 0=true->∀ e f g h i j,d c e f g h i j->
 CondV e (
 (∃ c:(Nat->Bool)->Value->Value->Value->Value->Value->Value->World->Prop,c (fun _=>false) (.int .i64 0) undef undef undef undef undef { j with drawn:=j.drawn+1 }/\(
 (∀ b:Nat->Bool,b 0=false->∀ d e f g h i j,c b d e f g h i j->
 RR (sOp (.load 25 (.const a)) 25) j fun a i=>
 c (ay b 0) d e f g h a i)/\
 (∀ a:Nat->Bool,a 1=false->a 0=true->∀ b d e f g h i,c a b d e f g h i->
 RR (aH (.func (.func 167) #[] #[]) [h]) i fun g i=>
 c (ay a 1) b d e f g h i)/\
 (∀ a:Nat->Bool,a 2=false->∀ d e f g h i j,c a d e f g h i j->
 RR (sOp (.load 25 (.const b)) 25) j fun b g=>
 c (ay a 2) d e f b h i g)/\
 (∀ a:Nat->Bool,a 3=false->a 2=true->a 1=true->∀ b d e f g h i,c a b d e f g h i->
 RR (aH (.func (.func 167) #[] #[]) [f]) i fun e i=>
 c (ay a 3) b d e f g h i)/\
 (∀ a:Nat->Bool,a 4=false->a 1=true->a 3=true->a 3=true->∀ b d e f g h i,c a b d e f g h i->
 RR (aH (.func (.func 168) #[] #[]) [g,e]) i fun d i=>
 c (ay a 4) b d e f g h i)/\
 (∀ a:Nat->Bool,a 5=false->a 4=true->a 4=true->a 0=true->a 1=true->a 2=true->a 3=true->a 4=true->∀ b d e f g h i,c a b d e f g h i->
 c (ay a 5) d d e f g h i)/\
 True)/\
 ∀ a:Nat->Bool,a 5=true->a 4=true->a 3=true->a 2=true->a 1=true->a 0=true->∀ b d e f g h i,c a b d e f g h i->
 R (.returned b) i)) (
 RR (sOp (.fieldAddr 25 (.const a) 0) 0) j fun c d=>
 RR (sOp (.load 3 (.const c)) 3) d fun c d=>
 RR (aq .neq 3 false true c (.int .i64 3)) d fun c d=>
 CondV c (
 RR (sOp (.fieldAddr 25 (.const a) 1) 0) d fun a c=>
 RR (sOp (.load 3 (.const a)) 3) c fun a c=>
 RR (sOp (.fieldAddr 25 (.const b) 1) 0) c fun b c=>
 RR (sOp (.load 3 (.const b)) 3) c fun b c=>
 RR (aH (.func (.func 168) #[] #[]) [a,b]) c fun a b=>
 R (.returned a) b) (
 RR (sOp (.fieldAddr 25 (.const a) 3) 0) d fun c d=>
 RR (sOp (.load 23 (.const c)) 23) d fun c d=>
 RR (ar .len #[23] 3 [false] [c]) d fun c d=>
 RR (sOp (.fieldAddr 25 (.const b) 3) 0) d fun d e=>
 RR (sOp (.load 23 (.const d)) 23) e fun d e=>
 RR (ar .len #[23] 3 [false] [d]) e fun d e=>
 RR (aq .neq 3 false false c d) e fun c d=>
 CondV c (
 RR (sOp (.fieldAddr 25 (.const a) 3) 0) d fun a c=>
 RR (sOp (.load 23 (.const a)) 23) c fun a c=>
 RR (ar .len #[23] 3 [false] [a]) c fun a c=>
 RR (sOp (.fieldAddr 25 (.const b) 3) 0) c fun b c=>
 RR (sOp (.load 23 (.const b)) 23) c fun b c=>
 RR (ar .len #[23] 3 [false] [b]) c fun b c=>
 RR (aH (.func (.func 168) #[] #[]) [a,b]) c fun a b=>
 R (.returned a) b) (
 RR (sOp (.fieldAddr 25 (.const a) 2) 0) d fun c d=>
 RR (sOp (.load 9 (.const c)) 9) d fun c d=>
 RR (sOp (.fieldAddr 25 (.const b) 2) 0) d fun d e=>
 RR (sOp (.load 9 (.const d)) 9) e fun d e=>
 RR (aq .neq 9 false false c d) e fun c d=>
 CondV c (
 RR (sOp (.fieldAddr 25 (.const a) 2) 0) d fun a c=>
 RR (sOp (.load 9 (.const a)) 9) c fun a c=>
 RR (sOp (.fieldAddr 25 (.const b) 2) 0) c fun b c=>
 RR (sOp (.load 9 (.const b)) 9) c fun b c=>
 RR (aH (.func (.func 169) #[] #[]) [a,b]) c fun a b=>
 R (.returned a) b) (
 (∃ (c:Value->World->Prop) (e:Value->World->Nat),c (.int .i64 0) d/\
 ∀ d _ _ _ _ _ _ f g h i j k l m n o p q _ _ _ _ _:Value,∀ r:World,c d r->
 RR (sOp (.fieldAddr 25 (.const a) 3) 0) r fun s t=>
 RR (sOp (.load 23 (.const s)) 23) t fun s t=>
 RR (ar .len #[23] 3 [false] [s]) t fun s t=>
 RR (aq .lss 3 false false d s) t fun s t=>
 CondV s (
 (∃ s:(Nat->Bool)->Value->Value->Value->Value->Value->Value->Value->Value->Value->Value->Value->Value->World->Prop,s (fun _=>false) f g h i j k l m n o p q { t with drawn:=t.drawn+1 }/\(
 (∀ b:Nat->Bool,b 0=false->∀ c d e f g h i j k l m n o,s b c d e f g h i j k l m n o->
 RR (sOp (.fieldAddr 25 (.const a) 3) 0) o fun a n=>
 s (ay b 0) c d e f g h i j k l m a n)/\
 (∀ a:Nat->Bool,a 1=false->a 0=true->∀ b c d e f g h i j k l m n,s a b c d e f g h i j k l m n->
 RR (sOp (.load 23 (.const m)) 23) n fun l n=>
 s (ay a 1) b c d e f g h i j k l m n)/\
 (∀ a:Nat->Bool,a 2=false->∀ b c e f g h i j k l m n o,s a b c e f g h i j k l m n o->
 s (ay a 2) b c e f g h i j k d m n o)/\
 (∀ a:Nat->Bool,a 3=false->a 1=true->a 2=true->∀ b c d e f g h i j k l m n,s a b c d e f g h i j k l m n->
 RR (sOp (.indexAddr 23 (.const l) (.const k)) 0) n fun j n=>
 s (ay a 3) b c d e f g h i j k l m n)/\
 (∀ a:Nat->Bool,a 4=false->a 3=true->∀ b c d e f g h i j k l m n,s a b c d e f g h i j k l m n->
 RR (sOp (.load 25 (.const j)) 25) n fun i n=>
 s (ay a 4) b c d e f g h i j k l m n)/\
 (∀ a:Nat->Bool,a 5=false->∀ c d e f g h i j k l m n o,s a c d e f g h i j k l m n o->
 RR (sOp (.fieldAddr 25 (.const b) 3) 0) o fun b i=>
 s (ay a 5) c d e f g h b j k l m n i)/\
 (∀ a:Nat->Bool,a 6=false->a 5=true->∀ b c d e f g h i j k l m n,s a b c d e f g h i j k l m n->
 RR (sOp (.load 23 (.const h)) 23) n fun g n=>
 s (ay a 6) b c d e f g h i j k l m n)/\
 (∀ a:Nat->Bool,a 7=false->∀ b c e f g h i j k l m n o,s a b c e f g h i j k l m n o->
 s (ay a 7) b c e f d h i j k l m n o)/\
 (∀ a:Nat->Bool,a 8=false->a 6=true->a 7=true->∀ b c d e f g h i j k l m n,s a b c d e f g h i j k l m n->
 RR (sOp (.indexAddr 23 (.const g) (.const f)) 0) n fun e n=>
 s (ay a 8) b c d e f g h i j k l m n)/\
 (∀ a:Nat->Bool,a 9=false->a 8=true->∀ b c d e f g h i j k l m n,s a b c d e f g h i j k l m n->
 RR (sOp (.load 25 (.const e)) 25) n fun d n=>
 s (ay a 9) b c d e f g h i j k l m n)/\
 (∀ a:Nat->Bool,a 10=false->a 4=true->a 9=true->∀ b c d e f g h i j k l m n,s a b c d e f g h i j k l m n->
 RR (aH (.func (.func 145) #[] #[]) [i,d]) n fun c n=>
 s (ay a 10) b c d e f g h i j k l m n)/\
 (∀ a:Nat->Bool,a 11=false->a 10=true->a 10=true->a 0=true->a 1=true->a 2=true->a 3=true->a 4=true->a 5=true->a 6=true->a 7=true->a 8=true->a 9=true->a 10=true->∀ b c d e f g h i j k l m n,s a b c d e f g h i j k l m n->
 s (ay a 11) c c d e f g h i j k l m n)/\
 True)/\
 ∀ a:Nat->Bool,a 11=true->a 10=true->a 9=true->a 8=true->a 7=true->a 6=true->a 5=true->a 4=true->a 3=true->a 2=true->a 1=true->a 0=true->∀ b f g h i j k l m n o p q,s a b f g h i j k l m n o p q->
 RR (aq .neq 3 false true b (.int .i64 0)) q fun a f=>
 CondV a (
 R (.returned b) f) (
 RR (aq .add 3 false true d (.int .i64 1)) f fun a b=>
 c a b/\e a b<e d r))) (
 R (.returned (.int .i64 0)) t)))))))
theorem s0 {p0 p1:Value} {w:World} {R:Ending->World->Prop} (h:oL p0 p1 w R):Calls Tryz.prog 145 #[p0,p1] w R:=
  aK (.seq none .leaf (.seq none .leaf (.seq none .leaf (.seq none .leaf (.seq none .leaf (.seq none (.seq none .leaf (.one (.loop [5] .leaf))) .leaf)))))) [p0,p1] be Tryz.func145 (by kernel_rfl) (by kernel_rfl) h


/- loop.example/prologserver/spec.l2Read : function 146 -/
def vY (p0 p1 p2 p3:Value) (w:World) (R:Ending->World->Prop):Prop:=
 RR (sOp (.alloc 25) 0) w fun a b=>
 RR (aq .eql 3 false true p3 (.int .i64 0)) b fun b c=>
 CondV b (
 RR (aH (.func (.func 170) #[] #[]) [p0,p1,p2]) c fun b c=>
 RR (sOp (.extract (.const b) 0) 25) c fun c d=>
 RR (sOp (.extract (.const b) 1) 3) d fun b d=>
 RR (sOp (.store 25 (.const a) (.const c)) 0) d fun _ c=>
 (bd Tryz.prog 25 a c fun a=>R (.returned (.tuple #[a,b])) c)) (
 RR (aq .sub 3 false true p3 (.int .i64 1)) c fun b c=>
 RR (aH (.func (.func 146) #[] #[]) [p0,p1,p2,b]) c fun b c=>
 RR (sOp (.extract (.const b) 0) 25) c fun c d=>
 RR (sOp (.extract (.const b) 1) 3) d fun b d=>
 RR (sOp (.alloc 25) 0) d fun d e=>
 RR (sOp (.store 25 (.const d) (.const c)) 0) e fun _ c=>
 (∃ (e:Value->World->Prop) (f:Value->World->Nat),e b c/\
 ∀ _ _ _ _ b _ _ _ _ _ _ _ _ _ _ _ _ _ _ _ _ _ _ _ _ _ _ _ _ _ _ _ _ _ _ _ _ _ _ _ _ _ _ _ _ _ _:Value,∀ c:World,e b c->
 RR (aq .geq 3 false true b (.int .i64 0)) c fun g h=>
 CondV g (
 RR (aH (.func (.func 171) #[] #[]) [p0,b]) h fun g h=>
 RR (sOp (.extract (.const g) 0) 9) h fun h i=>
 RR (sOp (.extract (.const g) 1) 3) i fun g i=>
 (∃ j:Value->World->Prop,(
 RR (aq .eql 9 false true h (.string ⟨#[]⟩)) i fun a b=>
 aj a false (
 RR (aH (.func (.func 164) #[] #[]) [h]) b fun b c=>
 RR (aq .neq 3 false false b p3) c fun b c=>
 RR (sOp (.pick (.const a) (.const (.bool true)) (.const b)) 4) c fun a b=>
 j a b) (
 RR (sOp (.pick (.const a) (.const (.bool true)) (.const undef)) 4) b fun a b=>
 j a b))/\
 ∀ i _ _ _ _ _ _ _:Value,∀ k:World,j i k->
 CondV i (
 RR (sOp (.load 25 (.const d)) 25) k fun c d=>
 RR (sOp (.store 25 (.const a) (.const c)) 0) d fun _ c=>
 (bd Tryz.prog 25 a c fun a=>R (.returned (.tuple #[a,b])) c)) (
 RR (aq .sub 3 false true p3 (.int .i64 1)) k fun i j=>
 RR (aH (.func (.func 146) #[] #[]) [p0,g,p2,i]) j fun g i=>
 RR (sOp (.extract (.const g) 0) 25) i fun i j=>
 RR (sOp (.extract (.const g) 1) 3) j fun g j=>
 RR (sOp (.alloc 25) 0) j fun j k=>
 RR (sOp (.store 25 (.const j) (.const i)) 0) k fun _ i=>
 RR (aq .lss 3 false true g (.int .i64 0)) i fun i k=>
 CondV i (
 RR (dy 25 []) k fun b c=>
 RR (sOp (.store 25 (.const a) (.const b)) 0) c fun _ b=>
 (bd Tryz.prog 25 a b fun a=>R (.returned (.tuple #[a,g])) b)) (
 RR (sOp (.load 25 (.const d)) 25) k fun i k=>
 RR (sOp (.load 25 (.const j)) 25) k fun j k=>
 RR (aS 23 2 [(0,i),(1,j)]) k fun i j=>
 RR (aH (.func (.func 78) #[] #[]) [h,i]) j fun h i=>
 RR (sOp (.store 25 (.const d) (.const h)) 0) i fun _ h=>
 RR (aq .eql 3 false true p3 (.int .i64 3)) h fun h i=>
 CondV h (
 RR (sOp (.load 25 (.const d)) 25) i fun b c=>
 RR (sOp (.store 25 (.const a) (.const b)) 0) c fun _ b=>
 (bd Tryz.prog 25 a b fun a=>R (.returned (.tuple #[a,g])) b)) (
 e g i/\f g i<f b c))))) (
 RR (dy 25 []) h fun c d=>
 RR (sOp (.store 25 (.const a) (.const c)) 0) d fun _ c=>
 (bd Tryz.prog 25 a c fun a=>R (.returned (.tuple #[a,b])) c))))
theorem y9 {p0 p1 p2 p3:Value} {w:World} {R:Ending->World->Prop} (h:vY p0 p1 p2 p3 w R):Calls Tryz.prog 146 #[p0,p1,p2,p3] w R:=
  aK (.seq none .leaf (.seq none .leaf (.seq none .leaf (.seq none (.one (.loop [11] (.seq none .leaf (.one (.seq none .leaf (.seq none (.seq (some [48]) .leaf .leaf) .leaf)))))) .leaf)))) [p0,p1,p2,p3] be Tryz.func146 (by kernel_rfl) (by kernel_rfl) h


/- loop.example/prologserver/spec.l1Sign : function 147 -/
def we (p0 p1 p2:Value) (w:World) (R:Ending->World->Prop):Prop:=
 RR (aq .geq 3 false true p1 (.int .i64 0)) w fun a b=>
 ((fun c:VW=>aj a true (
 RR (ar .len #[9] 3 [false] [p0]) b fun b d=>
 RR (aq .lss 3 false false p1 b) d fun b d=>
 RR (sOp (.pick (.const a) (.const b) (.const (.bool false))) 4) d fun a b=>c a b) (
 RR (sOp (.pick (.const a) (.const undef) (.const (.bool false))) 4) b fun a b=>c a b)) fun a b=>
 aj a true (
 RR (sOp (.index 9 (.const p0) (.const p1)) 5) b fun b c=>
 RR (aq .eql 5 false false b p2) c fun b c=>
 RR (sOp (.pick (.const a) (.const b) (.const (.bool false))) 4) c fun a b=>
 R (.returned a) b) (
 RR (sOp (.pick (.const a) (.const undef) (.const (.bool false))) 4) b fun a b=>
 R (.returned a) b))
theorem zY {p0 p1 p2:Value} {w:World} {R:Ending->World->Prop} (h:we p0 p1 p2 w R):Calls Tryz.prog 147 #[p0,p1,p2] w R:=
  aK .leaf [p0,p1,p2] be Tryz.func147 (by kernel_rfl) (by kernel_rfl) h


/- loop.example/prologserver/spec.l4Goals : function 148 -/
def tB (p0 p1:Value) (w:World) (R:Ending->World->Prop):Prop:=
 RR (aS 23 0 []) w fun a b=>
 (∃ (c:Value->Value->World->Prop) (d:Value->Value->World->Nat),c p1 a b/\
 ∀ a _ _ _ _ _ _ _ _ b _ _ _ _ _ _ _ _ _ _ _ _ _ _ _ _ _ _ _:Value,∀ e:World,c a b e->
 RR (ar .len #[23] 3 [false] [b]) e fun f g=>
 RR (aq .leq 3 false true f (.int .i64 6)) g fun f g=>
 CondV f (
 RR (aH (.func (.func 146) #[] #[]) [p0,a,(.int .i64 30),(.int .i64 3)]) g fun f g=>
 RR (sOp (.extract (.const f) 0) 25) g fun g h=>
 RR (sOp (.extract (.const f) 1) 3) h fun f h=>
 RR (sOp (.alloc 25) 0) h fun h i=>
 RR (sOp (.store 25 (.const h) (.const g)) 0) i fun _ g=>
 RR (aq .lss 3 false true f (.int .i64 0)) g fun g i=>
 CondV g (
 R (.returned (.tuple #[(Value.slice none 0 0),(.int .i64 (-1))])) i) (
 RR (sOp (.load 25 (.const h)) 25) i fun g h=>
 RR (aS 23 1 [(0,g)]) h fun g h=>
 RR (ar .append #[23,23] 23 [false,false] [b,g]) h fun g h=>
 RR (aH (.func (.func 147) #[] #[]) [p0,f,(.int .u8 44)]) h fun h i=>
 RR (sOp (.unOp .not 4 (.const h)) 4) i fun h i=>
 CondV h (
 R (.returned (.tuple #[g,f])) i) (
 RR (aq .add 3 false true f (.int .i64 1)) i fun f h=>
 c f g h/\d f g h<d a b e))) (
 R (.returned (.tuple #[(Value.slice none 0 0),(.int .i64 (-1))])) g))
theorem yj {p0 p1:Value} {w:World} {R:Ending->World->Prop} (h:tB p0 p1 w R):Calls Tryz.prog 148 #[p0,p1] w R:=
  aK (.seq none .leaf (.seq none .leaf (.seq none (.one (.loop [1,6] .leaf)) .leaf))) [p0,p1] be Tryz.func148 (by kernel_rfl) (by kernel_rfl) h


/- loop.example/prologserver/spec.FormatClause : function 149 -/
def kP (p0:Value) (w:World) (R:Ending->World->Prop):Prop:=
 RR (sOp (.box 39 (.const p0)) 0) w fun a b=>
 RR (sOp (.load 39 (.const a)) 39) b fun b c=>
 RR (aH (.func (.func 96) #[] #[]) [b]) c fun b c=>
 RR (sOp (.unOp .not 4 (.const b)) 4) c fun b c=>
 CondV b (
 R (.returned (.string ⟨#[]⟩)) c) (
 RR (sOp (.load 39 (.const a)) 39) c fun a b=>
 RR (aH (.func (.func 172) #[] #[]) [a]) b fun a b=>
 R (.returned a) b)
theorem ox {p0:Value} {w:World} {R:Ending->World->Prop} (h:kP p0 w R):Calls Tryz.prog 149 #[p0] w R:=
  aK .leaf [p0] be Tryz.func149 (by kernel_rfl) (by kernel_rfl) h


/- loop.example/prologserver/spec.l1Var : function 150 -/
def zD (p0:Value) (w:World) (R:Ending->World->Prop):Prop:=
 RR (sOp (.alloc 25) 0) w fun a b=>
 RR (dy 25 [(0,(.int .i64 1)),(1,p0)]) b fun b c=>
 RR (sOp (.store 25 (.const a) (.const b)) 0) c fun _ b=>
 (bd Tryz.prog 25 a b fun a=>R (.returned a) b)
theorem BL {p0:Value} {w:World} {R:Ending->World->Prop} (h:zD p0 w R):Calls Tryz.prog 150 #[p0] w R:=
  aK .leaf [p0] be Tryz.func150 (by kernel_rfl) (by kernel_rfl) h


/- loop.example/prologserver/spec.l1Digit : function 151 -/
def sJ (p0 p1:Value) (w:World) (R:Ending->World->Prop):Prop:=
 RR (aq .geq 3 false true p1 (.int .i64 0)) w fun a b=>
 ((fun c:VW=>aj a true (
 RR (ar .len #[9] 3 [false] [p0]) b fun b d=>
 RR (aq .lss 3 false false p1 b) d fun b d=>
 RR (sOp (.pick (.const a) (.const b) (.const (.bool false))) 4) d fun a b=>c a b) (
 RR (sOp (.pick (.const a) (.const undef) (.const (.bool false))) 4) b fun a b=>c a b)) fun a b=>
 ((fun c:VW=>aj a true (
 RR (sOp (.index 9 (.const p0) (.const p1)) 5) b fun b d=>
 RR (aq .geq 5 false true b (.int .u8 48)) d fun b d=>
 RR (sOp (.pick (.const a) (.const b) (.const (.bool false))) 4) d fun a b=>c a b) (
 RR (sOp (.pick (.const a) (.const undef) (.const (.bool false))) 4) b fun a b=>c a b)) fun a b=>
 aj a true (
 RR (sOp (.index 9 (.const p0) (.const p1)) 5) b fun b c=>
 RR (aq .leq 5 false true b (.int .u8 57)) c fun b c=>
 RR (sOp (.pick (.const a) (.const b) (.const (.bool false))) 4) c fun a b=>
 R (.returned a) b) (
 RR (sOp (.pick (.const a) (.const undef) (.const (.bool false))) 4) b fun a b=>
 R (.returned a) b)))
theorem xU {p0 p1:Value} {w:World} {R:Ending->World->Prop} (h:sJ p0 p1 w R):Calls Tryz.prog 151 #[p0,p1] w R:=
  aK .leaf [p0,p1] be Tryz.func151 (by kernel_rfl) (by kernel_rfl) h


/- loop.example/prologserver/spec.l1Number : function 152 -/
def qt (p0 p1:Value) (w:World) (R:Ending->World->Prop):Prop:=
 RR (sOp (.alloc 25) 0) w fun a b=>
 (∃ c:Value->World->Prop,(
 RR (aH (.func (.func 147) #[] #[]) [p0,p1,(.int .u8 45)]) b fun a b=>
 CondV a (
 RR (aq .add 3 false true p1 (.int .i64 1)) b fun a b=>
 c a b) (
 c p1 b))/\
 ∀ b _ _ _ _ _:Value,∀ d:World,c b d->
 (∃ (c:Value->World->Prop) (e:Value->World->Nat),c b d/\
 ∀ d _ _ _ _ _ _ _ _ _ _ _:Value,∀ f:World,c d f->
 (∃ g:Value->World->Prop,(
 RR (aH (.func (.func 151) #[] #[]) [p0,d]) f fun a c=>
 aj a true (
 RR (aq .add 3 false true b (.int .i64 4)) c fun b c=>
 RR (aq .lss 3 false false d b) c fun b c=>
 RR (sOp (.pick (.const a) (.const b) (.const (.bool false))) 4) c fun a b=>
 g a b) (
 RR (sOp (.pick (.const a) (.const undef) (.const (.bool false))) 4) c fun a b=>
 g a b))/\
 ∀ h _ _ _ _ _ _ _ _:Value,∀ i:World,g h i->
 CondV h (
 RR (aq .add 3 false true d (.int .i64 1)) i fun a b=>
 c a b/\e a b<e d f) (
 RR (sOp (.slice 9 (.const p0) (some (.const b)) (some (.const d)) none) 9) i fun c e=>
 RR (aH (.func (.func 173) #[] #[]) [c]) e fun c e=>
 RR (sOp (.extract (.const c) 0) 3) e fun e f=>
 RR (sOp (.extract (.const c) 1) 4) f fun c f=>
 (∃ g:Value->World->Prop,(
 RR (sOp (.unOp .not 4 (.const c)) 4) f fun a c=>
 aj a false (
 RR (aq .gtr 3 false false b p1) c fun b c=>
 aj b true (
 RR (aq .eql 3 false true e (.int .i64 0)) c fun c d=>
 ((fun e:VW=>aj a false (
 RR (sOp (.pick (.const b) (.const c) (.const (.bool false))) 4) d fun b c=>
 RR (sOp (.pick (.const a) (.const (.bool true)) (.const b)) 4) c fun a b=>e a b) (
 RR (sOp (.pick (.const a) (.const (.bool true)) (.const undef)) 4) d fun a b=>e a b)) fun a b=>
 aj a false (
 RR (aq .gtr 3 false true e (.int .i64 999)) b fun b c=>
 RR (sOp (.pick (.const a) (.const (.bool true)) (.const b)) 4) c fun a b=>
 g a b) (
 RR (sOp (.pick (.const a) (.const (.bool true)) (.const undef)) 4) b fun a b=>
 g a b))) (
 ((fun d:VW=>aj a false (
 RR (sOp (.pick (.const b) (.const undef) (.const (.bool false))) 4) c fun b c=>
 RR (sOp (.pick (.const a) (.const (.bool true)) (.const b)) 4) c fun a b=>d a b) (
 RR (sOp (.pick (.const a) (.const (.bool true)) (.const undef)) 4) c fun a b=>d a b)) fun a b=>
 aj a false (
 RR (aq .gtr 3 false true e (.int .i64 999)) b fun b c=>
 RR (sOp (.pick (.const a) (.const (.bool true)) (.const b)) 4) c fun a b=>
 g a b) (
 RR (sOp (.pick (.const a) (.const (.bool true)) (.const undef)) 4) b fun a b=>
 g a b)))) (
 aj undef true (
 RR (aq .eql 3 false true e (.int .i64 0)) c fun b c=>
 ((fun d:VW=>aj a false (
 RR (sOp (.pick (.const undef) (.const b) (.const (.bool false))) 4) c fun b c=>
 RR (sOp (.pick (.const a) (.const (.bool true)) (.const b)) 4) c fun a b=>d a b) (
 RR (sOp (.pick (.const a) (.const (.bool true)) (.const undef)) 4) c fun a b=>d a b)) fun a b=>
 aj a false (
 RR (aq .gtr 3 false true e (.int .i64 999)) b fun b c=>
 RR (sOp (.pick (.const a) (.const (.bool true)) (.const b)) 4) c fun a b=>
 g a b) (
 RR (sOp (.pick (.const a) (.const (.bool true)) (.const undef)) 4) b fun a b=>
 g a b))) (
 ((fun b:VW=>aj a false (
 RR (sOp (.pick (.const undef) (.const undef) (.const (.bool false))) 4) c fun c d=>
 RR (sOp (.pick (.const a) (.const (.bool true)) (.const c)) 4) d fun a c=>b a c) (
 RR (sOp (.pick (.const a) (.const (.bool true)) (.const undef)) 4) c fun a c=>b a c)) fun a b=>
 aj a false (
 RR (aq .gtr 3 false true e (.int .i64 999)) b fun b c=>
 RR (sOp (.pick (.const a) (.const (.bool true)) (.const b)) 4) c fun a b=>
 g a b) (
 RR (sOp (.pick (.const a) (.const (.bool true)) (.const undef)) 4) b fun a b=>
 g a b)))))/\
 ∀ c _ _ _ _ _ _ _ _ _ _ _ _ _ _:Value,∀ f:World,g c f->
 CondV c (
 RR (dy 25 []) f fun b c=>
 RR (sOp (.store 25 (.const a) (.const b)) 0) c fun _ b=>
 (bd Tryz.prog 25 a b fun a=>R (.returned (.tuple #[a,(.int .i64 (-1))])) b)) (
 (∃ c:Value->World->Prop,(
 RR (aq .gtr 3 false false b p1) f fun a b=>
 CondV a (
 RR (sOp (.unOp .neg 3 (.const e)) 3) b fun a b=>
 c a b) (
 c e b))/\
 ∀ b _ _ _ _ _:Value,∀ e:World,c b e->
 RR (aH (.func (.func 77) #[] #[]) [b]) e fun b c=>
 RR (sOp (.store 25 (.const a) (.const b)) 0) c fun _ b=>
 (bd Tryz.prog 25 a b fun a=>R (.returned (.tuple #[a,d])) b))))))))
theorem uv {p0 p1:Value} {w:World} {R:Ending->World->Prop} (h:qt p0 p1 w R):Calls Tryz.prog 152 #[p0,p1] w R:=
  aK (.seq none .leaf (.seq none .leaf (.seq (some [6]) .leaf (.seq none .leaf (.seq none (.one (.loop [6] (.seq none (.seq (some [25]) .leaf .leaf) .leaf))) (.seq none .leaf (.seq none (.seq (some [50]) .leaf .leaf) (.seq (some [8]) .leaf .leaf)))))))) [p0,p1] be Tryz.func152 (by kernel_rfl) (by kernel_rfl) h


/- loop.example/prologserver/spec.l1Name : function 154 -/
def wq (p0 p1:Value) (w:World) (R:Ending->World->Prop):Prop:=
 (∃ (a:Value->World->Prop) (b:Value->World->Nat),a p1 w/\
 ∀ c _ _ _ _ _:Value,∀ d:World,a c d->
 RR (aH (.func (.func 175) #[] #[]) [p0,c]) d fun e f=>
 CondV e (
 RR (aq .add 3 false true c (.int .i64 1)) f fun e f=>
 a e f/\b e f<b c d) (
 RR (aq .add 3 false true p1 (.int .i64 6)) f fun a b=>
 RR (aq .gtr 3 false false c a) b fun a b=>
 CondV a (
 R (.returned (.tuple #[(.string ⟨#[]⟩),(.int .i64 (-1))])) b) (
 RR (aq .gtr 3 false false c p1) b fun a b=>
 CondV a (
 RR (sOp (.slice 9 (.const p0) (some (.const p1)) (some (.const c)) none) 9) b fun a b=>
 R (.returned (.tuple #[a,c])) b) (
 RR (aH (.func (.func 176) #[] #[]) []) b fun a b=>
 (∃ (c:Value->Value->World->Prop) (d:Value->Value->World->Nat),c (.int .i64 0) (.string ⟨#[]⟩) b/\
 ∀ b _ _ e _ _ _ _ f g h i j k l m n o p q r s t u v x y z A B C D E _ _ _ _ _ _ _ _ _ _:Value,∀ F:World,c b e F->
 RR (ar .len #[67] 3 [false] [a]) F fun G H=>
 RR (aq .lss 3 false false b G) H fun G H=>
 CondV G (
 (∃ G:Value->World->Prop,(
 RR (sOp (.indexAddr 67 (.const a) (.const b)) 0) H fun c d=>
 RR (sOp (.load 9 (.const c)) 9) d fun c d=>
 RR (ar .len #[9] 3 [false] [c]) d fun c d=>
 (∃ F:(Nat->Bool)->Value->Value->Value->Value->Value->Value->Value->Value->Value->Value->Value->Value->Value->Value->Value->Value->Value->Value->Value->Value->Value->Value->Value->Value->Value->World->Prop,F (fun _=>false) f g h i j k l m n o p q r s t u v x y z A B C D E { d with drawn:=d.drawn+1 }/\(
 (∀ a:Nat->Bool,a 0=false->∀ b c d e f g h i j k l m n o p q r s t u v x y z A B,F a b c d e f g h i j k l m n o p q r s t u v x y z A B->
 F (ay a 0) b c d e f g h i j k l m n o p q r s t u v x y z p1 B)/\
 (∀ a:Nat->Bool,a 1=false->∀ b d e f g h i j k l m n o p q r s t u v x y z A B C,F a b d e f g h i j k l m n o p q r s t u v x y z A B C->
 F (ay a 1) b d e f g h i j k l m n o p q r s t u v x y z c B C)/\
 (∀ a:Nat->Bool,a 2=false->a 0=true->a 1=true->∀ b c d e f g h i j k l m n o p q r s t u v x y z A B,F a b c d e f g h i j k l m n o p q r s t u v x y z A B->
 RR (aq .add 3 false false A z) B fun y B=>
 F (ay a 2) b c d e f g h i j k l m n o p q r s t u v x y z A B)/\
 (∀ a:Nat->Bool,a 3=false->∀ b c d e f g h i j k l m n o p q r s t u v x y z A B,F a b c d e f g h i j k l m n o p q r s t u v x y z A B->
 F (ay a 3) b c d e f g h i j k l m n o p q r s t u v p0 y z A B)/\
 (∀ a:Nat->Bool,a 4=false->a 3=true->∀ b c d e f g h i j k l m n o p q r s t u v x y z A B,F a b c d e f g h i j k l m n o p q r s t u v x y z A B->
 RR (ar .len #[9] 3 [false] [x]) B fun v B=>
 F (ay a 4) b c d e f g h i j k l m n o p q r s t u v x y z A B)/\
 (∀ a:Nat->Bool,a 5=false->a 2=true->a 4=true->∀ b c d e f g h i j k l m n o p q r s t u v x y z A B,F a b c d e f g h i j k l m n o p q r s t u v x y z A B->
 RR (aq .leq 3 false false y v) B fun u B=>
 F (ay a 5) b c d e f g h i j k l m n o p q r s t u v x y z A B)/\
 (∀ a:Nat->Bool,a 6=false->a 5=true->∀ b c d e f g h i j k l m n o p q r s t u v x y z A B,F a b c d e f g h i j k l m n o p q r s t u v x y z A B->
 F (ay a 6) b c d e f g h i j k l m n o p q r s u u v x y z A B)/\
 (∀ a:Nat->Bool,a 7=false->a 6=true->∀ b c d e f g h i j k l m n o p q r s t u v x y z A B,F a b c d e f g h i j k l m n o p q r s t u v x y z A B->
 aj t true (F (ay a 7) b c d e f g h i j k l m n o p q r p0 t u v x y z A B) (F (ay a 7) b c d e f g h i j k l m n o p q r undef t u v x y z A B))/\
 (∀ a:Nat->Bool,a 8=false->a 6=true->∀ b c d e f g h i j k l m n o p q r s t u v x y z A B,F a b c d e f g h i j k l m n o p q r s t u v x y z A B->
 aj t true (F (ay a 8) b c d e f g h i j k l m n o p q p1 s t u v x y z A B) (F (ay a 8) b c d e f g h i j k l m n o p q undef s t u v x y z A B))/\
 (∀ a:Nat->Bool,a 9=false->a 6=true->∀ b c d e f g h i j k l m n o p q r s t u v x y z A B,F a b c d e f g h i j k l m n o p q r s t u v x y z A B->
 aj t true (F (ay a 9) b c d e f g h i j k l m n o p p1 r s t u v x y z A B) (F (ay a 9) b c d e f g h i j k l m n o p undef r s t u v x y z A B))/\
 (∀ a:Nat->Bool,a 10=false->a 6=true->∀ b d e f g h i j k l m n o p q r s t u v x y z A B C,F a b d e f g h i j k l m n o p q r s t u v x y z A B C->
 aj u true (F (ay a 10) b d e f g h i j k l m n o p c r s t u v x y z A B C) (F (ay a 10) b d e f g h i j k l m n o p undef r s t u v x y z A B C))/\
 (∀ a:Nat->Bool,a 11=false->a 9=true->a 10=true->a 6=true->∀ b c d e f g h i j k l m n o p q r s t u v x y z A B,F a b c d e f g h i j k l m n o p q r s t u v x y z A B->
 aj t true (RR (aq .add 3 false false q p) B fun o B=>
 F (ay a 11) b c d e f g h i j k l m n o p q r s t u v x y z A B) (F (ay a 11) b c d e f g h i j k l m n undef p q r s t u v x y z A B))/\
 (∀ a:Nat->Bool,a 12=false->a 7=true->a 8=true->a 11=true->a 6=true->∀ b c d e f g h i j k l m n o p q r s t u v x y z A B,F a b c d e f g h i j k l m n o p q r s t u v x y z A B->
 aj t true (RR (sOp (.slice 9 (.const s) (some (.const r)) (some (.const o)) none) 9) B fun n B=>
 F (ay a 12) b c d e f g h i j k l m n o p q r s t u v x y z A B) (F (ay a 12) b c d e f g h i j k l m undef o p q r s t u v x y z A B))/\
 (∀ b:Nat->Bool,b 13=false->b 6=true->∀ c d e f g h i j k l m n o p q r s t u v x y z A B C,F b c d e f g h i j k l m n o p q r s t u v x y z A B C->
 aj u true (F (ay b 13) c d e f g h i j k l m a o p q r s t u v x y z A B C) (F (ay b 13) c d e f g h i j k l m undef o p q r s t u v x y z A B C))/\
 (∀ a:Nat->Bool,a 14=false->a 6=true->∀ c d e f g h i j k l m n o p q r s t u v x y z A B C,F a c d e f g h i j k l m n o p q r s t u v x y z A B C->
 aj u true (F (ay a 14) c d e f g h i j k l b n o p q r s t u v x y z A B C) (F (ay a 14) c d e f g h i j k l undef n o p q r s t u v x y z A B C))/\
 (∀ a:Nat->Bool,a 15=false->a 13=true->a 14=true->a 6=true->∀ b c d e f g h i j k l m n o p q r s t u v x y z A B,F a b c d e f g h i j k l m n o p q r s t u v x y z A B->
 aj t true (RR (sOp (.indexAddr 67 (.const m) (.const l)) 0) B fun k B=>
 F (ay a 15) b c d e f g h i j k l m n o p q r s t u v x y z A B) (F (ay a 15) b c d e f g h i j undef l m n o p q r s t u v x y z A B))/\
 (∀ a:Nat->Bool,a 16=false->a 15=true->a 6=true->∀ b c d e f g h i j k l m n o p q r s t u v x y z A B,F a b c d e f g h i j k l m n o p q r s t u v x y z A B->
 aj t true (RR (sOp (.load 9 (.const k)) 9) B fun j B=>
 F (ay a 16) b c d e f g h i j k l m n o p q r s t u v x y z A B) (F (ay a 16) b c d e f g h i undef k l m n o p q r s t u v x y z A B))/\
 (∀ a:Nat->Bool,a 17=false->a 12=true->a 16=true->a 6=true->∀ b c d e f g h i j k l m n o p q r s t u v x y z A B,F a b c d e f g h i j k l m n o p q r s t u v x y z A B->
 aj t true (RR (aq .eql 9 false false n j) B fun i B=>
 F (ay a 17) b c d e f g h i j k l m n o p q r s t u v x y z A B) (F (ay a 17) b c d e f g h undef j k l m n o p q r s t u v x y z A B))/\
 (∀ a:Nat->Bool,a 18=false->a 6=true->a 17=true->∀ b c d e f g h i j k l m n o p q r s t u v x y z A B,F a b c d e f g h i j k l m n o p q r s t u v x y z A B->
 RR (sOp (.pick (.const t) (.const i) (.const (.bool false))) 4) B fun h B=>
 F (ay a 18) b c d e f g h i j k l m n o p q r s t u v x y z A B)/\
 (∀ a:Nat->Bool,a 19=false->a 18=true->a 6=true->∀ b c d e f g h i j k l m n o p q r s t u v x y z A B,F a b c d e f g h i j k l m n o p q r s t u v x y z A B->
 F (ay a 19) b c d e f h h i j k l m n o p q r s t u v x y z A B)/\
 (∀ a:Nat->Bool,a 20=false->a 19=true->∀ b d e f g h i j k l m n o p q r s t u v x y z A B C,F a b d e f g h i j k l m n o p q r s t u v x y z A B C->
 aj h true (F (ay a 20) b d e f c h i j k l m n o p q r s t u v x y z A B C) (F (ay a 20) b d e f undef h i j k l m n o p q r s t u v x y z A B C))/\
 (∀ a:Nat->Bool,a 21=false->a 19=true->∀ b c d f g h i j k l m n o p q r s t u v x y z A B C,F a b c d f g h i j k l m n o p q r s t u v x y z A B C->
 aj h true (F (ay a 21) b c d e g h i j k l m n o p q r s t u v x y z A B C) (F (ay a 21) b c d undef g h i j k l m n o p q r s t u v x y z A B C))/\
 (∀ a:Nat->Bool,a 22=false->a 21=true->a 19=true->∀ b c d e f g h i j k l m n o p q r s t u v x y z A B,F a b c d e f g h i j k l m n o p q r s t u v x y z A B->
 aj g true (RR (ar .len #[9] 3 [false] [e]) B fun d B=>
 F (ay a 22) b c d e f g h i j k l m n o p q r s t u v x y z A B) (F (ay a 22) b c undef e f g h i j k l m n o p q r s t u v x y z A B))/\
 (∀ a:Nat->Bool,a 23=false->a 20=true->a 22=true->a 19=true->∀ b c d e f g h i j k l m n o p q r s t u v x y z A B,F a b c d e f g h i j k l m n o p q r s t u v x y z A B->
 aj g true (RR (aq .gtr 3 false false f d) B fun c B=>
 F (ay a 23) b c d e f g h i j k l m n o p q r s t u v x y z A B) (F (ay a 23) b undef d e f g h i j k l m n o p q r s t u v x y z A B))/\
 (∀ a:Nat->Bool,a 24=false->a 19=true->a 23=true->∀ b c d e f g h i j k l m n o p q r s t u v x y z A B,F a b c d e f g h i j k l m n o p q r s t u v x y z A B->
 RR (sOp (.pick (.const g) (.const c) (.const (.bool false))) 4) B fun b B=>
 F (ay a 24) b c d e f g h i j k l m n o p q r s t u v x y z A B)/\
 True)/\
 ∀ c:Nat->Bool,c 24=true->c 23=true->c 22=true->c 21=true->c 20=true->c 19=true->c 18=true->c 17=true->c 16=true->c 15=true->c 14=true->c 13=true->c 12=true->c 11=true->c 10=true->c 9=true->c 8=true->c 7=true->c 6=true->c 5=true->c 4=true->c 3=true->c 2=true->c 1=true->c 0=true->∀ d f g h i j k l m n o p q r s t u v x y z A B C D E,F c d f g h i j k l m n o p q r s t u v x y z A B C D E->
 CondV d (
 RR (sOp (.indexAddr 67 (.const a) (.const b)) 0) E fun a b=>
 RR (sOp (.load 9 (.const a)) 9) b fun a b=>
 G a b) (
 G e E)))/\
 ∀ a _ _ _ _ _ _ _ _ _ _ _ _ _ _ _ _ _ _ _ _ _ _ _ _ _ _ _ _ _ _ _ _ _ _ _:Value,∀ f:World,G a f->
 RR (aq .add 3 false true b (.int .i64 1)) f fun f g=>
 c f a g/\d f a g<d b e F)) (
 RR (aq .eql 9 false true e (.string ⟨#[]⟩)) H fun a b=>
 CondV a (
 R (.returned (.tuple #[(.string ⟨#[]⟩),(.int .i64 (-1))])) b) (
 RR (ar .len #[9] 3 [false] [e]) b fun a b=>
 RR (aq .add 3 false false p1 a) b fun a b=>
 R (.returned (.tuple #[e,a])) b)))))))
theorem Ab {p0 p1:Value} {w:World} {R:Ending->World->Prop} (h:wq p0 p1 w R):Calls Tryz.prog 154 #[p0,p1] w R:=
  aK (.seq none .leaf (.seq none .leaf (.seq none (.one (.loop [6] .leaf)) (.seq none .leaf (.seq none .leaf (.seq none .leaf (.seq none .leaf (.seq none (.seq none .leaf (.one (.loop [9,7] (.seq none .leaf (.seq (some [7]) .leaf .leaf))))) .leaf)))))))) [p0,p1] be Tryz.func154 (by kernel_rfl) (by kernel_rfl) h


/- loop.example/prologserver/spec.l1Args : function 155 -/
def vX (p0 p1 p2:Value) (w:World) (R:Ending->World->Prop):Prop:=
 RR (aS 23 0 []) w fun a b=>
 (∃ (c:Value->Value->World->Prop) (d:Value->Value->World->Nat),c p1 a b/\
 ∀ a _ _ _ _ _ _ _ _ _ _ _ _ _ _ b _ _ _ _ _ _ _ _ _ _ _ _ _ _ _ _:Value,∀ e:World,c a b e->
 RR (ar .len #[23] 3 [false] [b]) e fun f g=>
 RR (aq .leq 3 false true f (.int .i64 4)) g fun f g=>
 CondV f (
 RR (aH (.func (.func 122) #[] #[]) [p0,a,p2]) g fun f g=>
 RR (sOp (.extract (.const f) 0) 25) g fun g h=>
 RR (sOp (.extract (.const f) 1) 3) h fun f h=>
 RR (sOp (.alloc 25) 0) h fun h i=>
 RR (sOp (.store 25 (.const h) (.const g)) 0) i fun _ g=>
 RR (sOp (.load 25 (.const h)) 25) g fun g h=>
 RR (aS 23 1 [(0,g)]) h fun g h=>
 RR (ar .append #[23,23] 23 [false,false] [b,g]) h fun g h=>
 RR (aH (.func (.func 147) #[] #[]) [p0,f,(.int .u8 41)]) h fun h i=>
 CondV h (
 RR (aq .add 3 false true f (.int .i64 1)) i fun a b=>
 R (.returned (.tuple #[g,a])) b) (
 RR (aH (.func (.func 147) #[] #[]) [p0,f,(.int .u8 44)]) i fun h i=>
 RR (sOp (.unOp .not 4 (.const h)) 4) i fun h i=>
 CondV h (
 R (.returned (.tuple #[(Value.slice none 0 0),(.int .i64 (-1))])) i) (
 RR (aq .add 3 false true f (.int .i64 1)) i fun f h=>
 c f g h/\d f g h<d a b e))) (
 R (.returned (.tuple #[(Value.slice none 0 0),(.int .i64 (-1))])) g))
theorem Au {p0 p1 p2:Value} {w:World} {R:Ending->World->Prop} (h:vX p0 p1 p2 w R):Calls Tryz.prog 155 #[p0,p1,p2] w R:=
  aK (.seq none .leaf (.seq none .leaf (.seq none (.one (.loop [1,8] .leaf)) .leaf))) [p0,p1,p2] be Tryz.func155 (by kernel_rfl) (by kernel_rfl) h


/- loop.example/prologserver/spec.l1Text : function 156 -/
def n6 (p0:Value) (w:World) (R:Ending->World->Prop):Prop:=
 RR (sOp (.box 25 (.const p0)) 0) w fun a b=>
 RR (sOp (.fieldAddr 25 (.const a) 0) 0) b fun b c=>
 RR (sOp (.load 3 (.const b)) 3) c fun b c=>
 RR (aq .eql 3 false true b (.int .i64 1)) c fun c d=>
 CondV c (
 RR (sOp (.fieldAddr 25 (.const a) 1) 0) d fun a b=>
 RR (sOp (.load 3 (.const a)) 3) b fun a b=>
 RR (aH (.func (.func 177) #[] #[]) [a]) b fun a b=>
 R (.returned a) b) (
 RR (aq .eql 3 false true b (.int .i64 2)) d fun b c=>
 CondV b (
 RR (sOp (.fieldAddr 25 (.const a) 1) 0) c fun a b=>
 RR (sOp (.load 3 (.const a)) 3) b fun a b=>
 RR (aH (.func (.func 178) #[] #[]) [a]) b fun a b=>
 R (.returned a) b) (
 RR (sOp (.load 25 (.const a)) 25) c fun b c=>
 RR (aH (.func (.func 179) #[] #[]) [b]) c fun b c=>
 CondV b (
 RR (sOp (.load 25 (.const a)) 25) c fun a b=>
 RR (aH (.func (.func 180) #[] #[]) [a]) b fun a b=>
 R (.returned a) b) (
 RR (sOp (.fieldAddr 25 (.const a) 2) 0) c fun b c=>
 RR (sOp (.load 9 (.const b)) 9) c fun b c=>
 (∃ (d:Value->Value->World->Prop) (e:Value->Value->World->Nat),d (.int .i64 0) b c/\
 ∀ b _ _ _ _ _ _ _ _ _ _ _ _ c _ _ _ _ _ _ _ _ _:Value,∀ f:World,d b c f->
 RR (sOp (.fieldAddr 25 (.const a) 3) 0) f fun g h=>
 RR (sOp (.load 23 (.const g)) 23) h fun g h=>
 RR (ar .len #[23] 3 [false] [g]) h fun g h=>
 RR (aq .lss 3 false false b g) h fun g h=>
 CondV g (
 (∃ g:Value->World->Prop,(
 RR (aq .eql 3 false true b (.int .i64 0)) h fun a b=>
 CondV a (
 RR (aq .add 9 false true c (.string ⟨#[40]⟩)) b fun a b=>
 g a b) (
 RR (aq .add 9 false true c (.string ⟨#[44]⟩)) b fun a b=>
 g a b))/\
 ∀ _ _ h _ _ _ _:Value,∀ i:World,g h i->
 RR (sOp (.fieldAddr 25 (.const a) 3) 0) i fun a g=>
 RR (sOp (.load 23 (.const a)) 23) g fun a g=>
 RR (sOp (.indexAddr 23 (.const a) (.const b)) 0) g fun a g=>
 RR (sOp (.load 25 (.const a)) 25) g fun a g=>
 RR (aH (.func (.func 156) #[] #[]) [a]) g fun a g=>
 RR (aq .add 9 false false h a) g fun a g=>
 RR (aq .add 3 false true b (.int .i64 1)) g fun g h=>
 d g a h/\e g a h<e b c f)) (
 (∃ b:Value->World->Prop,(
 RR (sOp (.fieldAddr 25 (.const a) 3) 0) h fun a d=>
 RR (sOp (.load 23 (.const a)) 23) d fun a d=>
 RR (ar .len #[23] 3 [false] [a]) d fun a d=>
 RR (aq .gtr 3 false true a (.int .i64 0)) d fun a d=>
 CondV a (
 RR (aq .add 9 false true c (.string ⟨#[41]⟩)) d fun a c=>
 b a c) (
 b c d))/\
 ∀ a _ _ _ _ _ _:Value,∀ c:World,b a c->
 R (.returned a) c))))))
theorem pp {p0:Value} {w:World} {R:Ending->World->Prop} (h:n6 p0 w R):Calls Tryz.prog 156 #[p0] w R:=
  aK (.seq none .leaf (.seq none .leaf (.seq none .leaf (.seq none .leaf (.seq none (.seq none .leaf (.one (.loop [4,3] (.seq none .leaf (.seq none (.one (.seq (some [3]) .leaf .leaf)) .leaf))))) (.seq (some [3]) .leaf .leaf)))))) [p0] be Tryz.func156 (by kernel_rfl) (by kernel_rfl) h


/- loop.example/prologserver/spec.l1Own : function 157 -/
def Ao (p0:Value) (w:World) (R:Ending->World->Prop):Prop:=
 RR (sOp (.box 25 (.const p0)) 0) w fun a b=>
 RR (sOp (.fieldAddr 25 (.const a) 0) 0) b fun b c=>
 RR (sOp (.load 3 (.const b)) 3) c fun b c=>
 RR (aq .eql 3 false true b (.int .i64 1)) c fun c d=>
 CondV c (
 RR (sOp (.fieldAddr 25 (.const a) 1) 0) d fun b c=>
 RR (sOp (.load 3 (.const b)) 3) c fun b c=>
 RR (aq .geq 3 false true b (.int .i64 0)) c fun b c=>
 ((fun d:VW=>aj b true (
 RR (sOp (.fieldAddr 25 (.const a) 1) 0) c fun a c=>
 RR (sOp (.load 3 (.const a)) 3) c fun a c=>
 RR (aq .leq 3 false true a (.int .i64 25)) c fun a c=>
 RR (sOp (.pick (.const b) (.const a) (.const (.bool false))) 4) c fun a b=>d a b) (
 RR (sOp (.pick (.const b) (.const undef) (.const (.bool false))) 4) c fun a b=>d a b)) fun b c=>
 ((fun d:VW=>aj b true (
 RR (sOp (.fieldAddr 25 (.const a) 2) 0) c fun a c=>
 RR (sOp (.load 9 (.const a)) 9) c fun a c=>
 RR (aq .eql 9 false true a (.string ⟨#[]⟩)) c fun a c=>
 RR (sOp (.pick (.const b) (.const a) (.const (.bool false))) 4) c fun a b=>d a b) (
 RR (sOp (.pick (.const b) (.const undef) (.const (.bool false))) 4) c fun a b=>d a b)) fun b c=>
 aj b true (
 RR (sOp (.fieldAddr 25 (.const a) 3) 0) c fun a c=>
 RR (sOp (.load 23 (.const a)) 23) c fun a c=>
 RR (ar .len #[23] 3 [false] [a]) c fun a c=>
 RR (aq .eql 3 false true a (.int .i64 0)) c fun a c=>
 RR (sOp (.pick (.const b) (.const a) (.const (.bool false))) 4) c fun a b=>
 R (.returned a) b) (
 RR (sOp (.pick (.const b) (.const undef) (.const (.bool false))) 4) c fun a b=>
 R (.returned a) b)))) (
 RR (aq .eql 3 false true b (.int .i64 2)) d fun c d=>
 CondV c (
 RR (sOp (.fieldAddr 25 (.const a) 1) 0) d fun b c=>
 RR (sOp (.load 3 (.const b)) 3) c fun b c=>
 RR (aq .geq 3 false true b (.int .i64 (-999))) c fun b c=>
 ((fun d:VW=>aj b true (
 RR (sOp (.fieldAddr 25 (.const a) 1) 0) c fun a c=>
 RR (sOp (.load 3 (.const a)) 3) c fun a c=>
 RR (aq .leq 3 false true a (.int .i64 999)) c fun a c=>
 RR (sOp (.pick (.const b) (.const a) (.const (.bool false))) 4) c fun a b=>d a b) (
 RR (sOp (.pick (.const b) (.const undef) (.const (.bool false))) 4) c fun a b=>d a b)) fun b c=>
 ((fun d:VW=>aj b true (
 RR (sOp (.fieldAddr 25 (.const a) 2) 0) c fun a c=>
 RR (sOp (.load 9 (.const a)) 9) c fun a c=>
 RR (aq .eql 9 false true a (.string ⟨#[]⟩)) c fun a c=>
 RR (sOp (.pick (.const b) (.const a) (.const (.bool false))) 4) c fun a b=>d a b) (
 RR (sOp (.pick (.const b) (.const undef) (.const (.bool false))) 4) c fun a b=>d a b)) fun b c=>
 aj b true (
 RR (sOp (.fieldAddr 25 (.const a) 3) 0) c fun a c=>
 RR (sOp (.load 23 (.const a)) 23) c fun a c=>
 RR (ar .len #[23] 3 [false] [a]) c fun a c=>
 RR (aq .eql 3 false true a (.int .i64 0)) c fun a c=>
 RR (sOp (.pick (.const b) (.const a) (.const (.bool false))) 4) c fun a b=>
 R (.returned a) b) (
 RR (sOp (.pick (.const b) (.const undef) (.const (.bool false))) 4) c fun a b=>
 R (.returned a) b)))) (
 RR (aq .eql 3 false true b (.int .i64 3)) d fun b c=>
 CondV b (
 RR (sOp (.fieldAddr 25 (.const a) 1) 0) c fun b c=>
 RR (sOp (.load 3 (.const b)) 3) c fun b c=>
 RR (aq .eql 3 false true b (.int .i64 0)) c fun b c=>
 ((fun d:VW=>aj b true (
 RR (sOp (.fieldAddr 25 (.const a) 2) 0) c fun a c=>
 RR (sOp (.load 9 (.const a)) 9) c fun a c=>
 RR (aH (.func (.func 181) #[] #[]) [a]) c fun a c=>
 RR (sOp (.pick (.const b) (.const a) (.const (.bool false))) 4) c fun a b=>d a b) (
 RR (sOp (.pick (.const b) (.const undef) (.const (.bool false))) 4) c fun a b=>d a b)) fun b c=>
 aj b true (
 RR (sOp (.fieldAddr 25 (.const a) 3) 0) c fun a c=>
 RR (sOp (.load 23 (.const a)) 23) c fun a c=>
 RR (ar .len #[23] 3 [false] [a]) c fun a c=>
 RR (aq .leq 3 false true a (.int .i64 4)) c fun a c=>
 RR (sOp (.pick (.const b) (.const a) (.const (.bool false))) 4) c fun a b=>
 R (.returned a) b) (
 RR (sOp (.pick (.const b) (.const undef) (.const (.bool false))) 4) c fun a b=>
 R (.returned a) b))) (
 R (.returned (.bool false)) c)))
theorem BF {p0:Value} {w:World} {R:Ending->World->Prop} (h:Ao p0 w R):Calls Tryz.prog 157 #[p0] w R:=
  aK .leaf [p0] be Tryz.func157 (by kernel_rfl) (by kernel_rfl) h


/- loop.example/prologserver/impl.symbols : function 158 -/
def tm (w:World) (R:Ending->World->Prop):Prop:=
 RR (aS 67 15 [(0,(.string ⟨#[43]⟩)),(1,(.string ⟨#[45]⟩)),(2,(.string ⟨#[42]⟩)),(3,(.string ⟨#[47,47]⟩)),(4,(.string ⟨#[61]⟩)),(5,(.string ⟨#[92,61]⟩)),(6,(.string ⟨#[61,61]⟩)),(7,(.string ⟨#[60]⟩)),(8,(.string ⟨#[62]⟩)),(9,(.string ⟨#[61,60]⟩)),(10,(.string ⟨#[62,61]⟩)),(11,(.string ⟨#[61,58,61]⟩)),(12,(.string ⟨#[46]⟩)),(13,(.string ⟨#[91,93]⟩)),(14,(.string ⟨#[33]⟩))]) w fun a b=>
 R (.returned a) b
theorem xA {w:World} {R:Ending->World->Prop} (h:tm w R):Calls Tryz.prog 158 #[] w R:=
  aK .leaf [] be Tryz.func158 (by kernel_rfl) (by kernel_rfl) h


/- slices.BinarySearchFunc[[]loop.example/prologserver/impl.Term,loop.example/prologserver/impl.Term,loop.example/prologserver/impl.Term] : function 159 -/
def gh (p0 p1 p2:Value) (w:World) (R:Ending->World->Prop):Prop:=
 RR (sOp (.box 25 (.const p1)) 0) w fun a b=>
 RR (ar .len #[23] 3 [false] [p0]) b fun b c=>
 (∃ (d:Value->Value->World->Prop) (e:Value->Value->World->Nat),d b (.int .i64 0) c/\
 ∀ c _ f _ _ g h i j k l m n _ _ _ _ _ _ _ _ _ _:Value,∀ o:World,d c f o->
 RR (aq .lss 3 false false f c) o fun p q=>
 CondV p (
 RR (aq .add 3 false false f c) q fun b p=>
 RR (sOp (.convert 3 143 (.const b)) 143) p fun b p=>
 RR (aq .shr 143 false true b (.int .u64 1)) p fun b p=>
 RR (sOp (.convert 143 3 (.const b)) 3) p fun b p=>
 (∃ q:(Nat->Bool)->Value->Value->Value->Value->Value->Value->Value->Value->World->Prop,q (fun _=>false) g h i j k l m n { p with drawn:=p.drawn+1 }/\(
 (∀ a:Nat->Bool,a 0=false->∀ b c d e f g h i j,q a b c d e f g h i j->
 q (ay a 0) b c d e f g h p2 j)/\
 (∀ a:Nat->Bool,a 1=false->∀ b c d e f g h i j,q a b c d e f g h i j->
 q (ay a 1) b c d e f g p0 i j)/\
 (∀ a:Nat->Bool,a 2=false->∀ c d e f g h i j k,q a c d e f g h i j k->
 q (ay a 2) c d e f g b i j k)/\
 (∀ a:Nat->Bool,a 3=false->a 1=true->a 2=true->∀ b c d e f g h i j,q a b c d e f g h i j->
 RR (sOp (.indexAddr 23 (.const h) (.const g)) 0) j fun f j=>
 q (ay a 3) b c d e f g h i j)/\
 (∀ a:Nat->Bool,a 4=false->a 3=true->∀ b c d e f g h i j,q a b c d e f g h i j->
 RR (sOp (.load 25 (.const f)) 25) j fun e j=>
 q (ay a 4) b c d e f g h i j)/\
 (∀ b:Nat->Bool,b 5=false->∀ c d e f g h i j k,q b c d e f g h i j k->
 RR (sOp (.load 25 (.const a)) 25) k fun a e=>
 q (ay b 5) c d a f g h i j e)/\
 (∀ a:Nat->Bool,a 6=false->a 0=true->a 4=true->a 5=true->∀ b c d e f g h i j,q a b c d e f g h i j->
 RR (aH i [e,d]) j fun c j=>
 q (ay a 6) b c d e f g h i j)/\
 (∀ a:Nat->Bool,a 7=false->a 6=true->∀ b c d e f g h i j,q a b c d e f g h i j->
 RR (aq .lss 3 false true c (.int .i64 0)) j fun b j=>
 q (ay a 7) b c d e f g h i j)/\
 True)/\
 ∀ a:Nat->Bool,a 7=true->a 6=true->a 5=true->a 4=true->a 3=true->a 2=true->a 1=true->a 0=true->∀ g h i j k l m n p,q a g h i j k l m n p->
 CondV g (
 RR (aq .add 3 false true b (.int .i64 1)) p fun a b=>
 d c a b/\e c a b<e c f o) (
 d b f p/\e b f p<e c f o))) (
 (∃ c:(Nat->Bool)->Value->Value->Value->Value->Value->Value->Value->Value->Value->Value->Value->Value->Value->Value->Value->Value->World->Prop,c (fun _=>false) (.bool false) (.int .i64 0) undef undef undef undef undef undef undef undef undef undef undef undef undef undef { q with drawn:=q.drawn+1 }/\(
 (∀ a:Nat->Bool,a 0=false->∀ b d e g h i j k l m n o p q r s t,c a b d e g h i j k l m n o p q r s t->
 c (ay a 0) b d e g h i j k l m n o p q r f t)/\
 (∀ a:Nat->Bool,a 1=false->∀ b d e g h i j k l m n o p q r s t,c a b d e g h i j k l m n o p q r s t->
 c (ay a 1) b d e g h i j k l m n o p q f s t)/\
 (∀ a:Nat->Bool,a 2=false->∀ d e f g h i j k l m n o p q r s t,c a d e f g h i j k l m n o p q r s t->
 c (ay a 2) d e f g h i j k l m n o p b r s t)/\
 (∀ a:Nat->Bool,a 3=false->a 1=true->a 2=true->∀ b d e f g h i j k l m n o p q r s,c a b d e f g h i j k l m n o p q r s->
 RR (aq .lss 3 false false q p) s fun o s=>
 c (ay a 3) b d e f g h i j k l m n o p q r s)/\
 (∀ a:Nat->Bool,a 4=false->a 3=true->∀ b d e f g h i j k l m n o p q r s,c a b d e f g h i j k l m n o p q r s->
 c (ay a 4) b d e f g h i j k l m o o p q r s)/\
 (∀ a:Nat->Bool,a 5=false->a 4=true->∀ b d e f g h i j k l m n o p q r s,c a b d e f g h i j k l m n o p q r s->
 aj n true (c (ay a 5) b d e f g h i j k l p2 n o p q r s) (c (ay a 5) b d e f g h i j k l undef n o p q r s))/\
 (∀ a:Nat->Bool,a 6=false->a 4=true->∀ b d e f g h i j k l m n o p q r s,c a b d e f g h i j k l m n o p q r s->
 aj n true (c (ay a 6) b d e f g h i j k p0 m n o p q r s) (c (ay a 6) b d e f g h i j k undef m n o p q r s))/\
 (∀ a:Nat->Bool,a 7=false->a 4=true->∀ b d e g h i j k l m n o p q r s t,c a b d e g h i j k l m n o p q r s t->
 aj o true (c (ay a 7) b d e g h i j k f m n o p q r s t) (c (ay a 7) b d e g h i j k undef m n o p q r s t))/\
 (∀ a:Nat->Bool,a 8=false->a 6=true->a 7=true->a 4=true->∀ b d e f g h i j k l m n o p q r s,c a b d e f g h i j k l m n o p q r s->
 aj n true (RR (sOp (.indexAddr 23 (.const l) (.const k)) 0) s fun j s=>
 c (ay a 8) b d e f g h i j k l m n o p q r s) (c (ay a 8) b d e f g h i undef k l m n o p q r s))/\
 (∀ a:Nat->Bool,a 9=false->a 8=true->a 4=true->∀ b d e f g h i j k l m n o p q r s,c a b d e f g h i j k l m n o p q r s->
 aj n true (RR (sOp (.load 25 (.const j)) 25) s fun i s=>
 c (ay a 9) b d e f g h i j k l m n o p q r s) (c (ay a 9) b d e f g h undef j k l m n o p q r s))/\
 (∀ b:Nat->Bool,b 10=false->b 4=true->∀ d e f g h i j k l m n o p q r s t,c b d e f g h i j k l m n o p q r s t->
 aj o true (RR (sOp (.load 25 (.const a)) 25) t fun a i=>
 c (ay b 10) d e f g h a j k l m n o p q r s i) (c (ay b 10) d e f g h undef j k l m n o p q r s t))/\
 (∀ a:Nat->Bool,a 11=false->a 5=true->a 9=true->a 10=true->a 4=true->a 4=true->∀ b d e f g h i j k l m n o p q r s,c a b d e f g h i j k l m n o p q r s->
 aj n true (RR (aH m [i,h]) s fun g s=>
 c (ay a 11) b d e f g h i j k l m n o p q r s) (c (ay a 11) b d e f undef h i j k l m n o p q r s))/\
 (∀ a:Nat->Bool,a 12=false->a 11=true->a 4=true->∀ b d e f g h i j k l m n o p q r s,c a b d e f g h i j k l m n o p q r s->
 aj n true (RR (aq .eql 3 false true g (.int .i64 0)) s fun f s=>
 c (ay a 12) b d e f g h i j k l m n o p q r s) (c (ay a 12) b d e undef g h i j k l m n o p q r s))/\
 (∀ a:Nat->Bool,a 13=false->a 4=true->a 12=true->∀ b d e f g h i j k l m n o p q r s,c a b d e f g h i j k l m n o p q r s->
 RR (sOp (.pick (.const n) (.const f) (.const (.bool false))) 4) s fun e s=>
 c (ay a 13) b d e f g h i j k l m n o p q r s)/\
 (∀ a:Nat->Bool,a 14=false->a 0=true->a 11=true->a 0=true->∀ b d e f g h i j k l m n o p q r s,c a b d e f g h i j k l m n o p q r s->
 c (ay a 14) b r e f g h i j k l m n o p q r s)/\
 (∀ a:Nat->Bool,a 15=false->a 13=true->a 14=true->a 0=true->a 1=true->a 2=true->a 3=true->a 4=true->a 5=true->a 6=true->a 7=true->a 8=true->a 9=true->a 10=true->a 11=true->a 12=true->a 13=true->a 14=true->∀ b d e f g h i j k l m n o p q r s,c a b d e f g h i j k l m n o p q r s->
 c (ay a 15) e d e f g h i j k l m n o p q r s)/\
 True)/\
 ∀ a:Nat->Bool,a 15=true->a 14=true->a 13=true->a 12=true->a 11=true->a 10=true->a 9=true->a 8=true->a 7=true->a 6=true->a 5=true->a 4=true->a 3=true->a 2=true->a 1=true->a 0=true->∀ b d e f g h i j k l m n o p q r s,c a b d e f g h i j k l m n o p q r s->
 R (.returned (.tuple #[d,b])) s)))
theorem iX {p0 p1 p2:Value} {w:World} {R:Ending->World->Prop} (h:gh p0 p1 p2 w R):Calls Tryz.prog 159 #[p0,p1,p2] w R:=
  aK (.seq none .leaf (.seq none .leaf (.seq none .leaf (.seq none (.one (.loop [10,9] .leaf)) .leaf)))) [p0,p1,p2] be Tryz.func159 (by kernel_rfl) (by kernel_rfl) h


/- slices.Insert[[]loop.example/prologserver/impl.Term,loop.example/prologserver/impl.Term] : function 160 -/
def lO (p0 p1 p2:Value) (w:World) (R:Ending->World->Prop):Prop:=
 RR (sOp (.slice 23 (.const p0) (some (.const p1)) none none) 23) w fun _ a=>
 RR (ar .len #[23] 3 [false] [p2]) a fun a b=>
 RR (aq .eql 3 false true a (.int .i64 0)) b fun b c=>
 CondV b (
 R (.returned p0) c) (
 RR (ar .len #[23] 3 [false] [p0]) c fun b c=>
 RR (aq .eql 3 false false p1 b) c fun c d=>
 CondV c (
 RR (ar .append #[23,23] 23 [false,false] [p0,p2]) d fun a b=>
 R (.returned a) b) (
 RR (aq .add 3 false false b a) d fun c d=>
 RR (ar .cap #[23] 3 [false] [p0]) d fun d e=>
 RR (aq .gtr 3 false false c d) e fun c d=>
 CondV c (
 RR (sOp (.slice 23 (.const p0) none (some (.const p1)) none) 23) d fun c d=>
 RR (aq .add 3 false false b a) d fun b d=>
 RR (aq .sub 3 false false b p1) d fun b d=>
 RR (ar .append #[23,3] 23 [false,false] [c,b]) d fun b c=>
 RR (sOp (.slice 23 (.const b) (some (.const p1)) none none) 23) c fun c d=>
 RR (ar .copy #[23,23] 3 [false,false] [c,p2]) d fun _ c=>
 (∃ d:(Nat->Bool)->Value->Value->Value->Value->Value->Value->Value->Value->Value->World->Prop,d (fun _=>false) undef undef undef undef undef undef undef undef undef { c with drawn:=c.drawn+1 }/\(
 (∀ a:Nat->Bool,a 0=false->∀ c e f g h i j k l m,d a c e f g h i j k l m->
 d (ay a 0) c e f g h i j k b m)/\
 (∀ a:Nat->Bool,a 1=false->∀ b c e f g h i j k l,d a b c e f g h i j k l->
 d (ay a 1) b c e f g h i p1 k l)/\
 (∀ b:Nat->Bool,b 2=false->∀ c e f g h i j k l m,d b c e f g h i j k l m->
 d (ay b 2) c e f g h i a k l m)/\
 (∀ a:Nat->Bool,a 3=false->a 1=true->a 2=true->∀ b c e f g h i j k l,d a b c e f g h i j k l->
 RR (aq .add 3 false false j i) l fun h l=>
 d (ay a 3) b c e f g h i j k l)/\
 (∀ a:Nat->Bool,a 4=false->a 0=true->a 3=true->∀ b c e f g h i j k l,d a b c e f g h i j k l->
 RR (sOp (.slice 23 (.const k) (some (.const h)) none none) 23) l fun g l=>
 d (ay a 4) b c e f g h i j k l)/\
 (∀ a:Nat->Bool,a 5=false->∀ b c e f g h i j k l,d a b c e f g h i j k l->
 d (ay a 5) b c e p0 g h i j k l)/\
 (∀ a:Nat->Bool,a 6=false->∀ b c e f g h i j k l,d a b c e f g h i j k l->
 d (ay a 6) b c p1 f g h i j k l)/\
 (∀ a:Nat->Bool,a 7=false->a 5=true->a 6=true->∀ b c e f g h i j k l,d a b c e f g h i j k l->
 RR (sOp (.slice 23 (.const f) (some (.const e)) none none) 23) l fun c l=>
 d (ay a 7) b c e f g h i j k l)/\
 (∀ a:Nat->Bool,a 8=false->a 4=true->a 7=true->∀ b c e f g h i j k l,d a b c e f g h i j k l->
 RR (ar .copy #[23,23] 3 [false,false] [g,c]) l fun b l=>
 d (ay a 8) b c e f g h i j k l)/\
 True)/\
 ∀ a:Nat->Bool,a 8=true->a 7=true->a 6=true->a 5=true->a 4=true->a 3=true->a 2=true->a 1=true->a 0=true->∀ c e f g h i j k l m,d a c e f g h i j k l m->
 R (.returned b) m)) (
 RR (aq .add 3 false false b a) d fun c d=>
 RR (sOp (.slice 23 (.const p0) none (some (.const c)) none) 23) d fun c d=>
 RR (aq .add 3 false false p1 a) d fun d e=>
 RR (sOp (.slice 23 (.const c) (some (.const d)) none none) 23) e fun d e=>
 RR (aH (.func (.func 182) #[] #[]) [p2,d]) e fun d e=>
 RR (sOp (.unOp .not 4 (.const d)) 4) e fun d e=>
 CondV d (
 (∃ b:(Nat->Bool)->Value->Value->Value->Value->Value->Value->Value->Value->Value->World->Prop,b (fun _=>false) undef undef undef undef undef undef undef undef undef { e with drawn:=e.drawn+1 }/\(
 (∀ a:Nat->Bool,a 0=false->∀ d e f g h i j k l m,b a d e f g h i j k l m->
 b (ay a 0) d e f g h i j k c m)/\
 (∀ a:Nat->Bool,a 1=false->∀ c d e f g h i j k l,b a c d e f g h i j k l->
 b (ay a 1) c d e f g h i p1 k l)/\
 (∀ c:Nat->Bool,c 2=false->∀ d e f g h i j k l m,b c d e f g h i j k l m->
 b (ay c 2) d e f g h i a k l m)/\
 (∀ a:Nat->Bool,a 3=false->a 1=true->a 2=true->∀ c d e f g h i j k l,b a c d e f g h i j k l->
 RR (aq .add 3 false false j i) l fun h l=>
 b (ay a 3) c d e f g h i j k l)/\
 (∀ a:Nat->Bool,a 4=false->a 0=true->a 3=true->∀ c d e f g h i j k l,b a c d e f g h i j k l->
 RR (sOp (.slice 23 (.const k) (some (.const h)) none none) 23) l fun g l=>
 b (ay a 4) c d e f g h i j k l)/\
 (∀ a:Nat->Bool,a 5=false->∀ d e f g h i j k l m,b a d e f g h i j k l m->
 b (ay a 5) d e f c h i j k l m)/\
 (∀ a:Nat->Bool,a 6=false->∀ c d e f g h i j k l,b a c d e f g h i j k l->
 b (ay a 6) c d p1 f g h i j k l)/\
 (∀ a:Nat->Bool,a 7=false->a 5=true->a 6=true->∀ c d e f g h i j k l,b a c d e f g h i j k l->
 RR (sOp (.slice 23 (.const f) (some (.const e)) none none) 23) l fun d l=>
 b (ay a 7) c d e f g h i j k l)/\
 (∀ a:Nat->Bool,a 8=false->a 4=true->a 7=true->∀ c d e f g h i j k l,b a c d e f g h i j k l->
 RR (ar .copy #[23,23] 3 [false,false] [g,d]) l fun c l=>
 b (ay a 8) c d e f g h i j k l)/\
 True)/\
 ∀ a:Nat->Bool,a 8=true->a 7=true->a 6=true->a 5=true->a 4=true->a 3=true->a 2=true->a 1=true->a 0=true->∀ d e f g h i j k l m,b a d e f g h i j k l m->
 RR (sOp (.slice 23 (.const c) (some (.const p1)) none none) 23) m fun a b=>
 RR (ar .copy #[23,23] 3 [false,false] [a,p2]) b fun _ a=>
 R (.returned c) a)) (
 RR (sOp (.slice 23 (.const c) (some (.const b)) none none) 23) e fun b d=>
 RR (ar .copy #[23,23] 3 [false,false] [b,p2]) d fun _ b=>
 RR (sOp (.slice 23 (.const c) (some (.const p1)) none none) 23) b fun b d=>
 RR (aH (.func (.func 183) #[] #[]) [b,a]) d fun _ a=>
 R (.returned c) a))))
theorem pX {p0 p1 p2:Value} {w:World} {R:Ending->World->Prop} (h:lO p0 p1 p2 w R):Calls Tryz.prog 160 #[p0,p1,p2] w R:=
  aK .leaf [p0,p1,p2] be Tryz.func160 (by kernel_rfl) (by kernel_rfl) h


/- loop.example/prologserver/spec.l4Goal : function 161 -/
def wv (p0:Value) (w:World) (R:Ending->World->Prop):Prop:=
 RR (sOp (.box 25 (.const p0)) 0) w fun a b=>
 RR (sOp (.load 25 (.const a)) 25) b fun b c=>
 RR (aH (.func (.func 184) #[] #[]) [b]) c fun b c=>
 ((fun d:VW=>aj b false (
 RR (sOp (.load 25 (.const a)) 25) c fun a c=>
 RR (aH (.func (.func 135) #[] #[]) [a]) c fun a c=>
 RR (sOp (.pick (.const b) (.const (.bool true)) (.const a)) 4) c fun a b=>d a b) (
 RR (sOp (.pick (.const b) (.const (.bool true)) (.const undef)) 4) c fun a b=>d a b)) fun b c=>
 aj b false (
 RR (sOp (.fieldAddr 25 (.const a) 0) 0) c fun c d=>
 RR (sOp (.load 3 (.const c)) 3) d fun c d=>
 RR (aq .eql 3 false true c (.int .i64 3)) d fun c d=>
 aj c true (
 RR (sOp (.fieldAddr 25 (.const a) 2) 0) d fun d e=>
 RR (sOp (.load 9 (.const d)) 9) e fun d e=>
 RR (sOp (.fieldAddr 25 (.const a) 3) 0) e fun a e=>
 RR (sOp (.load 23 (.const a)) 23) e fun a e=>
 RR (ar .len #[23] 3 [false] [a]) e fun a e=>
 RR (aH (.func (.func 163) #[] #[]) [d,a]) e fun a d=>
 aj b false (
 RR (sOp (.pick (.const c) (.const a) (.const (.bool false))) 4) d fun a c=>
 RR (sOp (.pick (.const b) (.const (.bool true)) (.const a)) 4) c fun a b=>
 R (.returned a) b) (
 RR (sOp (.pick (.const b) (.const (.bool true)) (.const undef)) 4) d fun a b=>
 R (.returned a) b)) (
 aj b false (
 RR (sOp (.pick (.const c) (.const undef) (.const (.bool false))) 4) d fun a c=>
 RR (sOp (.pick (.const b) (.const (.bool true)) (.const a)) 4) c fun a b=>
 R (.returned a) b) (
 RR (sOp (.pick (.const b) (.const (.bool true)) (.const undef)) 4) d fun a b=>
 R (.returned a) b))) (
 aj undef true (
 RR (sOp (.fieldAddr 25 (.const a) 2) 0) c fun c d=>
 RR (sOp (.load 9 (.const c)) 9) d fun c d=>
 RR (sOp (.fieldAddr 25 (.const a) 3) 0) d fun a d=>
 RR (sOp (.load 23 (.const a)) 23) d fun a d=>
 RR (ar .len #[23] 3 [false] [a]) d fun a d=>
 RR (aH (.func (.func 163) #[] #[]) [c,a]) d fun a c=>
 aj b false (
 RR (sOp (.pick (.const undef) (.const a) (.const (.bool false))) 4) c fun a c=>
 RR (sOp (.pick (.const b) (.const (.bool true)) (.const a)) 4) c fun a b=>
 R (.returned a) b) (
 RR (sOp (.pick (.const b) (.const (.bool true)) (.const undef)) 4) c fun a b=>
 R (.returned a) b)) (
 aj b false (
 RR (sOp (.pick (.const undef) (.const undef) (.const (.bool false))) 4) c fun a c=>
 RR (sOp (.pick (.const b) (.const (.bool true)) (.const a)) 4) c fun a b=>
 R (.returned a) b) (
 RR (sOp (.pick (.const b) (.const (.bool true)) (.const undef)) 4) c fun a b=>
 R (.returned a) b))))
theorem Ah {p0:Value} {w:World} {R:Ending->World->Prop} (h:wv p0 w R):Calls Tryz.prog 161 #[p0] w R:=
  aK .leaf [p0] be Tryz.func161 (by kernel_rfl) (by kernel_rfl) h


/- loop.example/prologserver/spec.l1Word : function 162 -/
def wg (p0:Value) (w:World) (R:Ending->World->Prop):Prop:=
 (∃ (a:Value->World->Prop) (b:Value->World->Nat),a (.int .i64 0) w/\
 ∀ c _ _ _ _ _ _ _ _ _ _ _ _ _ _ _ _ _:Value,∀ d:World,a c d->
 RR (ar .len #[9] 3 [false] [p0]) d fun e f=>
 RR (aq .lss 3 false false c e) f fun e f=>
 CondV e (
 (∃ e:Value->World->Prop,(
 RR (sOp (.index 9 (.const p0) (.const c)) 5) f fun a b=>
 RR (aq .lss 5 false true a (.int .u8 97)) b fun a b=>
 aj a false (
 RR (sOp (.index 9 (.const p0) (.const c)) 5) b fun b c=>
 RR (aq .gtr 5 false true b (.int .u8 122)) c fun b c=>
 RR (sOp (.pick (.const a) (.const (.bool true)) (.const b)) 4) c fun a b=>
 e a b) (
 RR (sOp (.pick (.const a) (.const (.bool true)) (.const undef)) 4) b fun a b=>
 e a b))/\
 ∀ f _ _ _ _ _ _ _ _ _:Value,∀ g:World,e f g->
 CondV f (
 R (.returned (.bool false)) g) (
 RR (aq .add 3 false true c (.int .i64 1)) g fun e f=>
 a e f/\b e f<b c d))) (
 RR (ar .len #[9] 3 [false] [p0]) f fun a b=>
 RR (aq .geq 3 false true a (.int .i64 1)) b fun a b=>
 aj a true (
 RR (ar .len #[9] 3 [false] [p0]) b fun b c=>
 RR (aq .leq 3 false true b (.int .i64 6)) c fun b c=>
 RR (sOp (.pick (.const a) (.const b) (.const (.bool false))) 4) c fun a b=>
 R (.returned a) b) (
 RR (sOp (.pick (.const a) (.const undef) (.const (.bool false))) 4) b fun a b=>
 R (.returned a) b)))
theorem zB {p0:Value} {w:World} {R:Ending->World->Prop} (h:wg p0 w R):Calls Tryz.prog 162 #[p0] w R:=
  aK (.seq none .leaf (.seq none (.seq none .leaf (.one (.loop [3] (.seq none .leaf (.seq none (.one (.seq (some [19]) .leaf .leaf)) .leaf))))) .leaf)) [p0] be Tryz.func162 (by kernel_rfl) (by kernel_rfl) h


/- loop.example/prologserver/spec.IsBuiltin : function 163 -/
def pf (p0 p1:Value) (w:World) (R:Ending->World->Prop):Prop:=
 (∃ a:Value->World->Prop,(
 RR (aq .eql 9 false true p0 (.string ⟨#[61]⟩)) w fun b c=>
 CondV b (
 a b c) (
 RR (aq .eql 9 false true p0 (.string ⟨#[92,61]⟩)) c fun b c=>
 CondV b (
 a b c) (
 RR (aq .eql 9 false true p0 (.string ⟨#[61,61]⟩)) c fun b c=>
 CondV b (
 a b c) (
 RR (aq .eql 9 false true p0 (.string ⟨#[60]⟩)) c fun b c=>
 CondV b (
 a b c) (
 RR (aq .eql 9 false true p0 (.string ⟨#[62]⟩)) c fun b c=>
 CondV b (
 a b c) (
 RR (aq .eql 9 false true p0 (.string ⟨#[61,60]⟩)) c fun b c=>
 CondV b (
 a b c) (
 RR (aq .eql 9 false true p0 (.string ⟨#[62,61]⟩)) c fun b c=>
 CondV b (
 a b c) (
 RR (aq .eql 9 false true p0 (.string ⟨#[61,58,61]⟩)) c fun b c=>
 CondV b (
 a b c) (
 RR (aq .eql 9 false true p0 (.string ⟨#[105,115]⟩)) c fun b c=>
 a b c)))))))))/\
 ∀ _ _ _ _ _ _ _ _ b _:Value,∀ c:World,a b c->
 CondV b (
 RR (aq .eql 3 false true p1 (.int .i64 2)) c fun a b=>
 R (.returned a) b) (
 (∃ a:Value->World->Prop,(
 RR (aq .eql 9 false true p0 (.string ⟨#[116,114,117,101]⟩)) c fun b c=>
 CondV b (
 a b c) (
 RR (aq .eql 9 false true p0 (.string ⟨#[102,97,105,108]⟩)) c fun b c=>
 a b c))/\
 ∀ _ b _:Value,∀ c:World,a b c->
 CondV b (
 RR (aq .eql 3 false true p1 (.int .i64 0)) c fun a b=>
 R (.returned a) b) (
 (∃ a:Value->World->Prop,(
 RR (aq .eql 9 false true p0 (.string ⟨#[118,97,114]⟩)) c fun b c=>
 CondV b (
 a b c) (
 RR (aq .eql 9 false true p0 (.string ⟨#[110,111,110,118,97,114]⟩)) c fun b c=>
 CondV b (
 a b c) (
 RR (aq .eql 9 false true p0 (.string ⟨#[97,116,111,109]⟩)) c fun b c=>
 CondV b (
 a b c) (
 RR (aq .eql 9 false true p0 (.string ⟨#[105,110,116]⟩)) c fun b c=>
 a b c))))/\
 ∀ _ _ _ b _:Value,∀ c:World,a b c->
 CondV b (
 RR (aq .eql 3 false true p1 (.int .i64 1)) c fun a b=>
 R (.returned a) b) (
 RR (aq .eql 9 false true p0 (.string ⟨#[97,114,103]⟩)) c fun a b=>
 CondV a (
 RR (aq .eql 3 false true p1 (.int .i64 3)) b fun a b=>
 R (.returned a) b) (
 R (.returned (.bool false)) b)))))))
theorem sM {p0 p1:Value} {w:World} {R:Ending->World->Prop} (h:pf p0 p1 w R):Calls Tryz.prog 163 #[p0,p1] w R:=
  aK (.seq none .leaf (.seq none (.seq none .leaf (.one (.seq (some [6]) .leaf (.two .leaf (.seq (some [18]) .leaf (.two .leaf (.seq (some [23]) .leaf .leaf))))))) .leaf)) [p0,p1] be Tryz.func163 (by kernel_rfl) (by kernel_rfl) h


/- loop.example/prologserver/spec.l2Level : function 164 -/
def rY (p0:Value) (w:World) (R:Ending->World->Prop):Prop:=
 (∃ a:Value->World->Prop,(
 RR (aq .eql 9 false true p0 (.string ⟨#[61]⟩)) w fun b c=>
 CondV b (
 a b c) (
 RR (aq .eql 9 false true p0 (.string ⟨#[92,61]⟩)) c fun b c=>
 CondV b (
 a b c) (
 RR (aq .eql 9 false true p0 (.string ⟨#[61,61]⟩)) c fun b c=>
 CondV b (
 a b c) (
 RR (aq .eql 9 false true p0 (.string ⟨#[60]⟩)) c fun b c=>
 CondV b (
 a b c) (
 RR (aq .eql 9 false true p0 (.string ⟨#[62]⟩)) c fun b c=>
 CondV b (
 a b c) (
 RR (aq .eql 9 false true p0 (.string ⟨#[61,60]⟩)) c fun b c=>
 CondV b (
 a b c) (
 RR (aq .eql 9 false true p0 (.string ⟨#[62,61]⟩)) c fun b c=>
 CondV b (
 a b c) (
 RR (aq .eql 9 false true p0 (.string ⟨#[61,58,61]⟩)) c fun b c=>
 CondV b (
 a b c) (
 RR (aq .eql 9 false true p0 (.string ⟨#[105,115]⟩)) c fun b c=>
 a b c)))))))))/\
 ∀ _ _ _ _ _ _ _ _ b _:Value,∀ c:World,a b c->
 CondV b (
 R (.returned (.int .i64 3)) c) (
 (∃ a:Value->World->Prop,(
 RR (aq .eql 9 false true p0 (.string ⟨#[43]⟩)) c fun b c=>
 CondV b (
 a b c) (
 RR (aq .eql 9 false true p0 (.string ⟨#[45]⟩)) c fun b c=>
 a b c))/\
 ∀ _ b _:Value,∀ c:World,a b c->
 CondV b (
 R (.returned (.int .i64 2)) c) (
 (∃ a:Value->World->Prop,(
 RR (aq .eql 9 false true p0 (.string ⟨#[42]⟩)) c fun b c=>
 CondV b (
 a b c) (
 RR (aq .eql 9 false true p0 (.string ⟨#[47,47]⟩)) c fun b c=>
 CondV b (
 a b c) (
 RR (aq .eql 9 false true p0 (.string ⟨#[109,111,100]⟩)) c fun b c=>
 a b c)))/\
 ∀ _ _ b _:Value,∀ c:World,a b c->
 CondV b (
 R (.returned (.int .i64 1)) c) (
 R (.returned (.int .i64 0)) c))))))
theorem yc {p0:Value} {w:World} {R:Ending->World->Prop} (h:rY p0 w R):Calls Tryz.prog 164 #[p0] w R:=
  aK (.seq none .leaf (.seq none (.seq none .leaf (.one (.seq (some [4]) .leaf (.two .leaf (.seq (some [14]) .leaf (.two .leaf (.seq (some [17]) .leaf .leaf))))))) .leaf)) [p0] be Tryz.func164 (by kernel_rfl) (by kernel_rfl) h


/- loop.example/prologserver/impl.isCut : function 165 -/
def yZ (p0:Value) (w:World) (R:Ending->World->Prop):Prop:=
 RR (sOp (.box 25 (.const p0)) 0) w fun a b=>
 RR (sOp (.load 25 (.const a)) 25) b fun b c=>
 RR (aH (.func (.func 185) #[] #[]) [b]) c fun b c=>
 aj b true (
 RR (sOp (.fieldAddr 25 (.const a) 2) 0) c fun a c=>
 RR (sOp (.load 9 (.const a)) 9) c fun a c=>
 RR (aq .eql 9 false true a (.string ⟨#[33]⟩)) c fun a c=>
 RR (sOp (.pick (.const b) (.const a) (.const (.bool false))) 4) c fun a b=>
 R (.returned a) b) (
 RR (sOp (.pick (.const b) (.const undef) (.const (.bool false))) 4) c fun a b=>
 R (.returned a) b)
theorem BG {p0:Value} {w:World} {R:Ending->World->Prop} (h:yZ p0 w R):Calls Tryz.prog 165 #[p0] w R:=
  aK .leaf [p0] be Tryz.func165 (by kernel_rfl) (by kernel_rfl) h


/- loop.example/prologserver/spec.l1Draw : function 166 -/
def wy (p0 p1:Value) (w:World) (R:Ending->World->Prop):Prop:=
 RR (sOp (.alloc 25) 0) w fun a b=>
 (∃ c:Value->World->Prop,(
 RR (aq .lss 3 false true p1 (.int .i64 2)) b fun a b=>
 aj a false (
 RR (aH (.func (.func 69) #[] #[]) [p0,(.int .i64 4)]) b fun b d=>
 RR (aq .eql 3 false true b (.int .i64 0)) d fun b d=>
 RR (sOp (.pick (.const a) (.const (.bool true)) (.const b)) 4) d fun a b=>
 c a b) (
 RR (sOp (.pick (.const a) (.const (.bool true)) (.const undef)) 4) b fun a b=>
 c a b))/\
 ∀ b _ _ _ _ _ _:Value,∀ d:World,c b d->
 CondV b (
 RR (aH (.func (.func 69) #[] #[]) [p0,(.int .i64 4)]) d fun b c=>
 RR (aq .eql 3 false true b (.int .i64 0)) c fun c d=>
 CondV c (
 RR (aH (.func (.func 69) #[] #[]) [p0,(.int .i64 4)]) d fun b c=>
 RR (aH (.func (.func 150) #[] #[]) [b]) c fun b c=>
 RR (sOp (.store 25 (.const a) (.const b)) 0) c fun _ b=>
 (bd Tryz.prog 25 a b fun a=>R (.returned a) b)) (
 RR (aq .eql 3 false true b (.int .i64 1)) d fun b c=>
 CondV b (
 RR (aS 71 6 [(0,(.int .i64 0)),(1,(.int .i64 1)),(2,(.int .i64 7)),(3,(.int .i64 (-3))),(4,(.int .i64 999)),(5,(.int .i64 (-999)))]) c fun b c=>
 RR (aH (.func (.func 61) #[] #[]) [p0,b]) c fun b c=>
 RR (aH (.func (.func 77) #[] #[]) [b]) c fun b c=>
 RR (sOp (.store 25 (.const a) (.const b)) 0) c fun _ b=>
 (bd Tryz.prog 25 a b fun a=>R (.returned a) b)) (
 RR (aS 67 6 [(0,(.string ⟨#[97]⟩)),(1,(.string ⟨#[98]⟩)),(2,(.string ⟨#[110,105,108]⟩)),(3,(.string ⟨#[91,93]⟩)),(4,(.string ⟨#[102,111,111]⟩)),(5,(.string ⟨#[43]⟩))]) c fun b c=>
 RR (aH (.func (.func 76) #[] #[]) [p0,b]) c fun b c=>
 RR (aH (.func (.func 78) #[] #[]) [b,(Value.slice none 0 0)]) c fun b c=>
 RR (sOp (.store 25 (.const a) (.const b)) 0) c fun _ b=>
 (bd Tryz.prog 25 a b fun a=>R (.returned a) b)))) (
 RR (aH (.func (.func 69) #[] #[]) [p0,(.int .i64 3)]) d fun b c=>
 RR (aq .eql 3 false true b (.int .i64 0)) c fun b c=>
 CondV b (
 RR (aq .sub 3 false true p1 (.int .i64 1)) c fun b c=>
 RR (aH (.func (.func 166) #[] #[]) [p0,b]) c fun b c=>
 RR (aq .sub 3 false true p1 (.int .i64 1)) c fun c d=>
 RR (aH (.func (.func 166) #[] #[]) [p0,c]) d fun c d=>
 RR (aS 23 2 [(0,b),(1,c)]) d fun b c=>
 RR (aH (.func (.func 78) #[] #[]) [(.string ⟨#[46]⟩),b]) c fun b c=>
 RR (sOp (.store 25 (.const a) (.const b)) 0) c fun _ b=>
 (bd Tryz.prog 25 a b fun a=>R (.returned a) b)) (
 RR (aS 67 7 [(0,(.string ⟨#[102]⟩)),(1,(.string ⟨#[103]⟩)),(2,(.string ⟨#[115]⟩)),(3,(.string ⟨#[43]⟩)),(4,(.string ⟨#[61]⟩)),(5,(.string ⟨#[105,115]⟩)),(6,(.string ⟨#[102,111,111]⟩))]) c fun b c=>
 RR (aH (.func (.func 76) #[] #[]) [p0,b]) c fun b c=>
 RR (aH (.func (.func 78) #[] #[]) [b,(Value.slice none 0 0)]) c fun b c=>
 RR (sOp (.alloc 25) 0) c fun c d=>
 RR (sOp (.store 25 (.const c) (.const b)) 0) d fun _ b=>
 RR (aS 71 4 [(0,(.int .i64 2)),(1,(.int .i64 1)),(2,(.int .i64 3)),(3,(.int .i64 2))]) b fun b d=>
 RR (aH (.func (.func 61) #[] #[]) [p0,b]) d fun b d=>
 (∃ (e:Value->World->Prop) (f:Value->World->Nat),e b d/\
 ∀ b _ _ d g h i j k l m n _ _:Value,∀ o:World,e b o->
 RR (aq .gtr 3 false true b (.int .i64 0)) o fun p q=>
 CondV p (
 (∃ a:(Nat->Bool)->Value->Value->Value->Value->Value->Value->Value->Value->Value->World->Prop,a (fun _=>false) d g h i j k l m n { q with drawn:=q.drawn+1 }/\(
 (∀ b:Nat->Bool,b 0=false->∀ d e f g h i j k l m,a b d e f g h i j k l m->
 RR (sOp (.fieldAddr 25 (.const c) 3) 0) m fun c l=>
 a (ay b 0) d e f g h i j k c l)/\
 (∀ b:Nat->Bool,b 1=false->b 0=true->∀ c d e f g h i j k l,a b c d e f g h i j k l->
 RR (sOp (.load 23 (.const k)) 23) l fun j l=>
 a (ay b 1) c d e f g h i j k l)/\
 (∀ b:Nat->Bool,b 2=false->∀ c d e f g h i j k l,a b c d e f g h i j k l->
 a (ay b 2) c d e f g h p0 j k l)/\
 (∀ b:Nat->Bool,b 3=false->∀ c d e f g h i j k l,a b c d e f g h i j k l->
 a (ay b 3) c d e f g p1 i j k l)/\
 (∀ b:Nat->Bool,b 4=false->b 3=true->∀ c d e f g h i j k l,a b c d e f g h i j k l->
 RR (aq .sub 3 false true h (.int .i64 1)) l fun g l=>
 a (ay b 4) c d e f g h i j k l)/\
 (∀ b:Nat->Bool,b 5=false->b 2=true->b 4=true->∀ c d e f g h i j k l,a b c d e f g h i j k l->
 RR (aH (.func (.func 166) #[] #[]) [i,g]) l fun f l=>
 a (ay b 5) c d e f g h i j k l)/\
 (∀ b:Nat->Bool,b 6=false->b 5=true->∀ c d e f g h i j k l,a b c d e f g h i j k l->
 RR (aS 23 1 [(0,f)]) l fun e l=>
 a (ay b 6) c d e f g h i j k l)/\
 (∀ b:Nat->Bool,b 7=false->b 1=true->b 6=true->b 5=true->∀ c d e f g h i j k l,a b c d e f g h i j k l->
 RR (ar .append #[23,23] 23 [false,false] [j,e]) l fun d l=>
 a (ay b 7) c d e f g h i j k l)/\
 (∀ b:Nat->Bool,b 8=false->b 0=true->b 1=true->b 2=true->b 3=true->b 4=true->b 5=true->b 6=true->b 7=true->∀ d e f g h i j k l m,a b d e f g h i j k l m->
 RR (sOp (.fieldAddr 25 (.const c) 3) 0) m fun c d=>
 a (ay b 8) c e f g h i j k l d)/\
 (∀ b:Nat->Bool,b 9=false->b 8=true->b 7=true->b 7=true->b 0=true->b 1=true->b 2=true->b 3=true->b 4=true->b 5=true->b 6=true->b 7=true->∀ c d e f g h i j k l,a b c d e f g h i j k l->
 RR (sOp (.store 23 (.const c) (.const d)) 0) l fun _ l=>
 a (ay b 9) c d e f g h i j k l)/\
 True)/\
 ∀ c:Nat->Bool,c 9=true->c 8=true->c 7=true->c 6=true->c 5=true->c 4=true->c 3=true->c 2=true->c 1=true->c 0=true->∀ d g h i j k l m n p,a c d g h i j k l m n p->
 RR (aq .sub 3 false true b (.int .i64 1)) p fun a c=>
 e a c/\f a c<f b o)) (
 RR (sOp (.load 25 (.const c)) 25) q fun b c=>
 RR (sOp (.store 25 (.const a) (.const b)) 0) c fun _ b=>
 (bd Tryz.prog 25 a b fun a=>R (.returned a) b))))))
theorem Af {p0 p1:Value} {w:World} {R:Ending->World->Prop} (h:wy p0 p1 w R):Calls Tryz.prog 166 #[p0,p1] w R:=
  aK (.seq none .leaf (.seq none (.seq (some [13]) .leaf .leaf) (.seq none .leaf (.seq none .leaf (.seq none (.seq none .leaf (.one (.loop [6] .leaf))) .leaf))))) [p0,p1] be Tryz.func166 (by kernel_rfl) (by kernel_rfl) h


/- loop.example/prologserver/spec.l1Rank : function 167 -/
def wU (p0:Value) (w:World) (R:Ending->World->Prop):Prop:=
 RR (sOp (.box 25 (.const p0)) 0) w fun a b=>
 (∃ c:Value->World->Prop,(
 RR (sOp (.fieldAddr 25 (.const a) 0) 0) b fun b d=>
 RR (sOp (.load 3 (.const b)) 3) d fun b d=>
 RR (aq .eql 3 false true b (.int .i64 3)) d fun b d=>
 aj b true (
 RR (sOp (.fieldAddr 25 (.const a) 3) 0) d fun a d=>
 RR (sOp (.load 23 (.const a)) 23) d fun a d=>
 RR (ar .len #[23] 3 [false] [a]) d fun a d=>
 RR (aq .gtr 3 false true a (.int .i64 0)) d fun a d=>
 RR (sOp (.pick (.const b) (.const a) (.const (.bool false))) 4) d fun a b=>
 c a b) (
 RR (sOp (.pick (.const b) (.const undef) (.const (.bool false))) 4) d fun a b=>
 c a b))/\
 ∀ b _ _ _ _ _ _ _ _:Value,∀ d:World,c b d->
 CondV b (
 R (.returned (.int .i64 4)) d) (
 RR (sOp (.fieldAddr 25 (.const a) 0) 0) d fun a b=>
 RR (sOp (.load 3 (.const a)) 3) b fun a b=>
 R (.returned a) b))
theorem zR {p0:Value} {w:World} {R:Ending->World->Prop} (h:wU p0 w R):Calls Tryz.prog 167 #[p0] w R:=
  aK (.seq none .leaf (.seq none (.seq (some [11]) .leaf .leaf) .leaf)) [p0] be Tryz.func167 (by kernel_rfl) (by kernel_rfl) h


/- loop.example/prologserver/spec.l1Less : function 168 -/
def wc (p0 p1:Value) (w:World) (R:Ending->World->Prop):Prop:=
 RR (aq .lss 3 false false p0 p1) w fun a b=>
 CondV a (
 R (.returned (.int .i64 (-1))) b) (
 RR (aq .gtr 3 false false p0 p1) b fun a b=>
 CondV a (
 R (.returned (.int .i64 1)) b) (
 R (.returned (.int .i64 0)) b))
theorem Ai {p0 p1:Value} {w:World} {R:Ending->World->Prop} (h:wc p0 p1 w R):Calls Tryz.prog 168 #[p0,p1] w R:=
  aK .leaf [p0,p1] be Tryz.func168 (by kernel_rfl) (by kernel_rfl) h


/- loop.example/prologserver/spec.l1Before : function 169 -/
def qv (p0 p1:Value) (w:World) (R:Ending->World->Prop):Prop:=
 RR (aq .lss 9 false false p0 p1) w fun a b=>
 CondV a (
 R (.returned (.int .i64 (-1))) b) (
 RR (aq .gtr 9 false false p0 p1) b fun a b=>
 CondV a (
 R (.returned (.int .i64 1)) b) (
 R (.returned (.int .i64 0)) b))
theorem u4 {p0 p1:Value} {w:World} {R:Ending->World->Prop} (h:qv p0 p1 w R):Calls Tryz.prog 169 #[p0,p1] w R:=
  aK .leaf [p0,p1] be Tryz.func169 (by kernel_rfl) (by kernel_rfl) h


/- loop.example/prologserver/spec.l2Prime : function 170 -/
def sD (p0 p1 p2:Value) (w:World) (R:Ending->World->Prop):Prop:=
 RR (sOp (.alloc 25) 0) w fun a b=>
 (∃ c:Value->World->Prop,(
 RR (aq .lss 3 false true p2 (.int .i64 1)) b fun a b=>
 aj a false (
 RR (ar .len #[9] 3 [false] [p0]) b fun b d=>
 RR (aq .geq 3 false false p1 b) d fun b d=>
 RR (sOp (.pick (.const a) (.const (.bool true)) (.const b)) 4) d fun a b=>
 c a b) (
 RR (sOp (.pick (.const a) (.const (.bool true)) (.const undef)) 4) b fun a b=>
 c a b))/\
 ∀ b _ _ _ _ _ _ _:Value,∀ d:World,c b d->
 CondV b (
 RR (aH (.func (.func 186) #[] #[]) [p1]) d fun b c=>
 RR (sOp (.extract (.const b) 0) 25) c fun c d=>
 RR (sOp (.extract (.const b) 1) 3) d fun b d=>
 RR (sOp (.store 25 (.const a) (.const c)) 0) d fun _ c=>
 (bd Tryz.prog 25 a c fun a=>R (.returned (.tuple #[a,b])) c)) (
 RR (sOp (.index 9 (.const p0) (.const p1)) 5) d fun b c=>
 RR (aq .eql 5 false true b (.int .u8 40)) c fun b c=>
 CondV b (
 RR (aq .add 3 false true p1 (.int .i64 1)) c fun b c=>
 RR (aH (.func (.func 146) #[] #[]) [p0,b,p2,(.int .i64 3)]) c fun b c=>
 RR (sOp (.extract (.const b) 0) 25) c fun c d=>
 RR (sOp (.extract (.const b) 1) 3) d fun b d=>
 RR (sOp (.alloc 25) 0) d fun d e=>
 RR (sOp (.store 25 (.const d) (.const c)) 0) e fun _ c=>
 RR (aq .lss 3 false true b (.int .i64 0)) c fun c e=>
 CondV c (
 RR (dy 25 []) e fun c d=>
 RR (sOp (.store 25 (.const a) (.const c)) 0) d fun _ c=>
 (bd Tryz.prog 25 a c fun a=>R (.returned (.tuple #[a,b])) c)) (
 RR (aH (.func (.func 147) #[] #[]) [p0,b,(.int .u8 41)]) e fun c e=>
 RR (sOp (.unOp .not 4 (.const c)) 4) e fun c e=>
 CondV c (
 RR (aH (.func (.func 186) #[] #[]) [b]) e fun b c=>
 RR (sOp (.extract (.const b) 0) 25) c fun c d=>
 RR (sOp (.extract (.const b) 1) 3) d fun b d=>
 RR (sOp (.store 25 (.const a) (.const c)) 0) d fun _ c=>
 (bd Tryz.prog 25 a c fun a=>R (.returned (.tuple #[a,b])) c)) (
 RR (sOp (.load 25 (.const d)) 25) e fun c d=>
 RR (aq .add 3 false true b (.int .i64 1)) d fun b d=>
 RR (sOp (.store 25 (.const a) (.const c)) 0) d fun _ c=>
 (bd Tryz.prog 25 a c fun a=>R (.returned (.tuple #[a,b])) c)))) (
 (∃ b:Value->World->Prop,(
 RR (sOp (.index 9 (.const p0) (.const p1)) 5) c fun a c=>
 RR (aq .eql 5 false true a (.int .u8 91)) c fun a c=>
 aj a true (
 RR (aq .add 3 false true p1 (.int .i64 1)) c fun c d=>
 RR (aH (.func (.func 147) #[] #[]) [p0,c,(.int .u8 93)]) d fun c d=>
 RR (sOp (.unOp .not 4 (.const c)) 4) d fun c d=>
 RR (sOp (.pick (.const a) (.const c) (.const (.bool false))) 4) d fun a c=>
 b a c) (
 RR (sOp (.pick (.const a) (.const undef) (.const (.bool false))) 4) c fun a c=>
 b a c))/\
 ∀ c _ _ _ _ _ _ _ _ _ _:Value,∀ d:World,b c d->
 CondV c (
 RR (aq .add 3 false true p1 (.int .i64 1)) d fun b c=>
 RR (aq .sub 3 false true p2 (.int .i64 1)) c fun c d=>
 RR (aH (.func (.func 187) #[] #[]) [p0,b,c]) d fun b c=>
 RR (sOp (.extract (.const b) 0) 25) c fun c d=>
 RR (sOp (.extract (.const b) 1) 3) d fun b d=>
 RR (sOp (.store 25 (.const a) (.const c)) 0) d fun _ c=>
 (bd Tryz.prog 25 a c fun a=>R (.returned (.tuple #[a,b])) c)) (
 (∃ b:Value->World->Prop,(
 RR (sOp (.index 9 (.const p0) (.const p1)) 5) d fun a c=>
 RR (aq .geq 5 false true a (.int .u8 65)) c fun a c=>
 aj a true (
 RR (sOp (.index 9 (.const p0) (.const p1)) 5) c fun c d=>
 RR (aq .leq 5 false true c (.int .u8 90)) d fun c d=>
 RR (sOp (.pick (.const a) (.const c) (.const (.bool false))) 4) d fun a c=>
 b a c) (
 RR (sOp (.pick (.const a) (.const undef) (.const (.bool false))) 4) c fun a c=>
 b a c))/\
 ∀ c _ _ _ _ _ _ _ _ _:Value,∀ d:World,b c d->
 CondV c (
 RR (sOp (.index 9 (.const p0) (.const p1)) 5) d fun b c=>
 RR (aq .sub 5 false true b (.int .u8 65)) c fun b c=>
 RR (sOp (.convert 5 3 (.const b)) 3) c fun b c=>
 RR (aH (.func (.func 150) #[] #[]) [b]) c fun b c=>
 RR (aq .add 3 false true p1 (.int .i64 1)) c fun c d=>
 RR (sOp (.store 25 (.const a) (.const b)) 0) d fun _ b=>
 (bd Tryz.prog 25 a b fun a=>R (.returned (.tuple #[a,c])) b)) (
 (∃ b:Value->World->Prop,(
 RR (aH (.func (.func 151) #[] #[]) [p0,p1]) d fun a c=>
 aj a false (
 RR (sOp (.index 9 (.const p0) (.const p1)) 5) c fun c d=>
 RR (aq .eql 5 false true c (.int .u8 45)) d fun c d=>
 aj c true (
 RR (aq .add 3 false true p1 (.int .i64 1)) d fun d e=>
 RR (aH (.func (.func 151) #[] #[]) [p0,d]) e fun d e=>
 aj a false (
 RR (sOp (.pick (.const c) (.const d) (.const (.bool false))) 4) e fun c d=>
 RR (sOp (.pick (.const a) (.const (.bool true)) (.const c)) 4) d fun a c=>
 b a c) (
 RR (sOp (.pick (.const a) (.const (.bool true)) (.const undef)) 4) e fun a c=>
 b a c)) (
 aj a false (
 RR (sOp (.pick (.const c) (.const undef) (.const (.bool false))) 4) d fun c d=>
 RR (sOp (.pick (.const a) (.const (.bool true)) (.const c)) 4) d fun a c=>
 b a c) (
 RR (sOp (.pick (.const a) (.const (.bool true)) (.const undef)) 4) d fun a c=>
 b a c))) (
 aj undef true (
 RR (aq .add 3 false true p1 (.int .i64 1)) c fun c d=>
 RR (aH (.func (.func 151) #[] #[]) [p0,c]) d fun c d=>
 aj a false (
 RR (sOp (.pick (.const undef) (.const c) (.const (.bool false))) 4) d fun c d=>
 RR (sOp (.pick (.const a) (.const (.bool true)) (.const c)) 4) d fun a c=>
 b a c) (
 RR (sOp (.pick (.const a) (.const (.bool true)) (.const undef)) 4) d fun a c=>
 b a c)) (
 aj a false (
 RR (sOp (.pick (.const undef) (.const undef) (.const (.bool false))) 4) c fun c d=>
 RR (sOp (.pick (.const a) (.const (.bool true)) (.const c)) 4) d fun a c=>
 b a c) (
 RR (sOp (.pick (.const a) (.const (.bool true)) (.const undef)) 4) c fun a c=>
 b a c))))/\
 ∀ c _ _ _ _ _ _ _ _ _ _ _ _ _ _:Value,∀ d:World,b c d->
 CondV c (
 RR (aH (.func (.func 152) #[] #[]) [p0,p1]) d fun b c=>
 RR (sOp (.extract (.const b) 0) 25) c fun c d=>
 RR (sOp (.extract (.const b) 1) 3) d fun b d=>
 RR (sOp (.alloc 25) 0) d fun d e=>
 RR (sOp (.store 25 (.const d) (.const c)) 0) e fun _ c=>
 RR (aq .lss 3 false true b (.int .i64 0)) c fun c e=>
 CondV c (
 RR (aH (.func (.func 186) #[] #[]) [p1]) e fun b c=>
 RR (sOp (.extract (.const b) 0) 25) c fun c d=>
 RR (sOp (.extract (.const b) 1) 3) d fun b d=>
 RR (sOp (.store 25 (.const a) (.const c)) 0) d fun _ c=>
 (bd Tryz.prog 25 a c fun a=>R (.returned (.tuple #[a,b])) c)) (
 RR (sOp (.load 25 (.const d)) 25) e fun c d=>
 RR (sOp (.store 25 (.const a) (.const c)) 0) d fun _ c=>
 (bd Tryz.prog 25 a c fun a=>R (.returned (.tuple #[a,b])) c))) (
 RR (aH (.func (.func 154) #[] #[]) [p0,p1]) d fun b c=>
 RR (sOp (.extract (.const b) 0) 9) c fun c d=>
 RR (sOp (.extract (.const b) 1) 3) d fun b d=>
 RR (aq .lss 3 false true b (.int .i64 0)) d fun d e=>
 CondV d (
 RR (aH (.func (.func 186) #[] #[]) [p1]) e fun b c=>
 RR (sOp (.extract (.const b) 0) 25) c fun c d=>
 RR (sOp (.extract (.const b) 1) 3) d fun b d=>
 RR (sOp (.store 25 (.const a) (.const c)) 0) d fun _ c=>
 (bd Tryz.prog 25 a c fun a=>R (.returned (.tuple #[a,b])) c)) (
 RR (aH (.func (.func 147) #[] #[]) [p0,b,(.int .u8 40)]) e fun d e=>
 RR (sOp (.unOp .not 4 (.const d)) 4) e fun d e=>
 CondV d (
 RR (aH (.func (.func 78) #[] #[]) [c,(Value.slice none 0 0)]) e fun c d=>
 RR (sOp (.store 25 (.const a) (.const c)) 0) d fun _ c=>
 (bd Tryz.prog 25 a c fun a=>R (.returned (.tuple #[a,b])) c)) (
 RR (aq .add 3 false true b (.int .i64 1)) e fun b d=>
 RR (aq .sub 3 false true p2 (.int .i64 1)) d fun d e=>
 RR (aH (.func (.func 188) #[] #[]) [p0,b,d,(.int .u8 41),(.int .u8 41)]) e fun b d=>
 RR (sOp (.extract (.const b) 0) 23) d fun d e=>
 RR (sOp (.extract (.const b) 1) 3) e fun b e=>
 RR (aq .lss 3 false true b (.int .i64 0)) e fun e f=>
 CondV e (
 RR (dy 25 []) f fun c d=>
 RR (sOp (.store 25 (.const a) (.const c)) 0) d fun _ c=>
 (bd Tryz.prog 25 a c fun a=>R (.returned (.tuple #[a,b])) c)) (
 RR (dy 25 [(0,(.int .i64 3)),(2,c),(3,d)]) f fun c d=>
 RR (aq .add 3 false true b (.int .i64 1)) d fun b d=>
 RR (sOp (.store 25 (.const a) (.const c)) 0) d fun _ c=>
 (bd Tryz.prog 25 a c fun a=>R (.returned (.tuple #[a,b])) c)))))))))))))
theorem xY {p0 p1 p2:Value} {w:World} {R:Ending->World->Prop} (h:sD p0 p1 p2 w R):Calls Tryz.prog 170 #[p0,p1,p2] w R:=
  aK (.seq none .leaf (.seq none (.seq (some [23]) .leaf .leaf) (.seq none .leaf (.seq none (.seq (some [65]) .leaf .leaf) (.seq none (.seq (some [83]) .leaf .leaf) (.seq none (.seq (some [106]) .leaf .leaf) .leaf)))))) [p0,p1,p2] be Tryz.func170 (by kernel_rfl) (by kernel_rfl) h


/- loop.example/prologserver/spec.l2Op : function 171 -/
def CE (p0 p1:Value) (w:World) (R:Ending->World->Prop):Prop:=
 (∃ a:Value->World->Prop,(
 RR (aH (.func (.func 147) #[] #[]) [p0,p1,(.int .u8 32)]) w fun b c=>
 CondV b (
 RR (aq .add 3 false true p1 (.int .i64 1)) c fun b c=>
 a b c) (
 a p1 c))/\
 ∀ b _ _ _ _ _:Value,∀ c:World,a b c->
 RR (ar .len #[9] 3 [false] [p0]) c fun a c=>
 RR (aq .geq 3 false false b a) c fun a c=>
 CondV a (
 R (.returned (.tuple #[(.string ⟨#[]⟩),p1])) c) (
 RR (aH (.func (.func 154) #[] #[]) [p0,b]) c fun a c=>
 RR (sOp (.extract (.const a) 0) 9) c fun c d=>
 RR (sOp (.extract (.const a) 1) 3) d fun a d=>
 (∃ e:Value->World->Prop,(
 RR (aq .lss 3 false true a (.int .i64 0)) d fun a b=>
 aj a false (
 RR (aH (.func (.func 164) #[] #[]) [c]) b fun b c=>
 RR (aq .eql 3 false true b (.int .i64 0)) c fun b c=>
 RR (sOp (.pick (.const a) (.const (.bool true)) (.const b)) 4) c fun a b=>
 e a b) (
 RR (sOp (.pick (.const a) (.const (.bool true)) (.const undef)) 4) b fun a b=>
 e a b))/\
 ∀ d _ _ _ _ _ _:Value,∀ f:World,e d f->
 CondV d (
 R (.returned (.tuple #[(.string ⟨#[]⟩),p1])) f) (
 (∃ d:Value->World->Prop,(
 RR (aq .eql 9 false true c (.string ⟨#[105,115]⟩)) f fun a b=>
 aj a false (
 RR (aq .eql 9 false true c (.string ⟨#[109,111,100]⟩)) b fun b c=>
 RR (sOp (.pick (.const a) (.const (.bool true)) (.const b)) 4) c fun a b=>
 d a b) (
 RR (sOp (.pick (.const a) (.const (.bool true)) (.const undef)) 4) b fun a b=>
 d a b))/\
 ∀ e _ _ _ _ _ _:Value,∀ f:World,d e f->
 (∃ d:Value->World->Prop,(
 RR (aq .gtr 3 false false b p1) f fun b c=>
 RR (aq .neq 4 false false e b) c fun b c=>
 aj b false (
 aj e true (
 RR (aH (.func (.func 147) #[] #[]) [p0,a,(.int .u8 32)]) c fun a c=>
 RR (sOp (.unOp .not 4 (.const a)) 4) c fun a c=>
 aj b false (
 RR (sOp (.pick (.const e) (.const a) (.const (.bool false))) 4) c fun a c=>
 RR (sOp (.pick (.const b) (.const (.bool true)) (.const a)) 4) c fun a b=>
 d a b) (
 RR (sOp (.pick (.const b) (.const (.bool true)) (.const undef)) 4) c fun a b=>
 d a b)) (
 aj b false (
 RR (sOp (.pick (.const e) (.const undef) (.const (.bool false))) 4) c fun a c=>
 RR (sOp (.pick (.const b) (.const (.bool true)) (.const a)) 4) c fun a b=>
 d a b) (
 RR (sOp (.pick (.const b) (.const (.bool true)) (.const undef)) 4) c fun a b=>
 d a b))) (
 aj undef true (
 RR (aH (.func (.func 147) #[] #[]) [p0,a,(.int .u8 32)]) c fun a c=>
 RR (sOp (.unOp .not 4 (.const a)) 4) c fun a c=>
 aj b false (
 RR (sOp (.pick (.const undef) (.const a) (.const (.bool false))) 4) c fun a c=>
 RR (sOp (.pick (.const b) (.const (.bool true)) (.const a)) 4) c fun a b=>
 d a b) (
 RR (sOp (.pick (.const b) (.const (.bool true)) (.const undef)) 4) c fun a b=>
 d a b)) (
 aj b false (
 RR (sOp (.pick (.const undef) (.const undef) (.const (.bool false))) 4) c fun a c=>
 RR (sOp (.pick (.const b) (.const (.bool true)) (.const a)) 4) c fun a b=>
 d a b) (
 RR (sOp (.pick (.const b) (.const (.bool true)) (.const undef)) 4) c fun a b=>
 d a b))))/\
 ∀ b _ _ _ _ _ _ _ _ _ _ _ _ _:Value,∀ f:World,d b f->
 CondV b (
 R (.returned (.tuple #[(.string ⟨#[]⟩),p1])) f) (
 (∃ b:Value->World->Prop,(
 CondV e (
 RR (aq .add 3 false true a (.int .i64 1)) f fun a c=>
 b a c) (
 b a f))/\
 ∀ a _ _ _:Value,∀ d:World,b a d->
 R (.returned (.tuple #[c,a])) d))))))))
theorem DK {p0 p1:Value} {w:World} {R:Ending->World->Prop} (h:CE p0 p1 w R):Calls Tryz.prog 171 #[p0,p1] w R:=
  aK (.seq none .leaf (.seq none .leaf (.seq (some [6]) .leaf (.seq none .leaf (.seq none .leaf (.seq none (.seq (some [33]) .leaf .leaf) (.seq (some [9]) .leaf (.seq none (.seq (some [54]) .leaf .leaf) (.seq (some [8]) .leaf .leaf))))))))) [p0,p1] be Tryz.func171 (by kernel_rfl) (by kernel_rfl) h


/- loop.example/prologserver/spec.l4Text : function 172 -/
def vV (p0:Value) (w:World) (R:Ending->World->Prop):Prop:=
 RR (sOp (.box 39 (.const p0)) 0) w fun a b=>
 RR (sOp (.fieldAddr 39 (.const a) 0) 0) b fun b c=>
 RR (sOp (.load 25 (.const b)) 25) c fun b c=>
 RR (aH (.func (.func 189) #[] #[]) [b]) c fun b c=>
 (∃ (d:Value->Value->World->Prop) (e:Value->Value->World->Nat),d (.int .i64 0) b c/\
 ∀ b _ _ _ _ _ _ _ _ _ _ _ _ c _ _ _ _ _ _ _ _ _:Value,∀ f:World,d b c f->
 RR (sOp (.fieldAddr 39 (.const a) 1) 0) f fun g h=>
 RR (sOp (.load 23 (.const g)) 23) h fun g h=>
 RR (ar .len #[23] 3 [false] [g]) h fun g h=>
 RR (aq .lss 3 false false b g) h fun g h=>
 CondV g (
 (∃ g:Value->World->Prop,(
 RR (aq .eql 3 false true b (.int .i64 0)) h fun a b=>
 CondV a (
 RR (aq .add 9 false true c (.string ⟨#[58,45]⟩)) b fun a b=>
 g a b) (
 RR (aq .add 9 false true c (.string ⟨#[44]⟩)) b fun a b=>
 g a b))/\
 ∀ _ _ h _ _ _ _:Value,∀ i:World,g h i->
 RR (sOp (.fieldAddr 39 (.const a) 1) 0) i fun a g=>
 RR (sOp (.load 23 (.const a)) 23) g fun a g=>
 RR (sOp (.indexAddr 23 (.const a) (.const b)) 0) g fun a g=>
 RR (sOp (.load 25 (.const a)) 25) g fun a g=>
 RR (aH (.func (.func 189) #[] #[]) [a]) g fun a g=>
 RR (aq .add 9 false false h a) g fun a g=>
 RR (aq .add 3 false true b (.int .i64 1)) g fun g h=>
 d g a h/\e g a h<e b c f)) (
 RR (aq .add 9 false true c (.string ⟨#[46]⟩)) h fun a b=>
 R (.returned a) b))
theorem z6 {p0:Value} {w:World} {R:Ending->World->Prop} (h:vV p0 w R):Calls Tryz.prog 172 #[p0] w R:=
  aK (.seq none .leaf (.seq none .leaf (.seq none (.seq none .leaf (.one (.loop [4,3] (.seq none .leaf (.seq none (.one (.seq (some [3]) .leaf .leaf)) .leaf))))) .leaf))) [p0] be Tryz.func172 (by kernel_rfl) (by kernel_rfl) h


/- loop.example/prologserver/spec.l18Num : function 173 -/
def wI (p0:Value) (w:World) (R:Ending->World->Prop):Prop:=
 (∃ a:Value->World->Prop,(
 RR (ar .len #[9] 3 [false] [p0]) w fun b c=>
 RR (aq .gtr 3 false true b (.int .i64 0)) c fun b c=>
 aj b true (
 RR (sOp (.index 9 (.const p0) (.const (.int .i64 0))) 5) c fun c d=>
 RR (aq .eql 5 false true c (.int .u8 45)) d fun c d=>
 RR (sOp (.pick (.const b) (.const c) (.const (.bool false))) 4) d fun b c=>
 a b c) (
 RR (sOp (.pick (.const b) (.const undef) (.const (.bool false))) 4) c fun b c=>
 a b c))/\
 ∀ b _ _ _ _ _ _ _ _:Value,∀ c:World,a b c->
 (∃ a:Value->World->Prop,(
 CondV b (
 RR (sOp (.slice 9 (.const p0) (some (.const (.int .i64 1))) none none) 9) c fun b c=>
 a b c) (
 a p0 c))/\
 ∀ c _ _ _:Value,∀ d:World,a c d->
 (∃ a:Value->World->Prop,(
 RR (ar .len #[9] 3 [false] [c]) d fun d e=>
 RR (aq .eql 3 false true d (.int .i64 0)) e fun d e=>
 ((fun a:VW=>aj d false (
 RR (ar .len #[9] 3 [false] [c]) e fun b c=>
 RR (aq .gtr 3 false true b (.int .i64 17)) c fun b c=>
 RR (sOp (.pick (.const d) (.const (.bool true)) (.const b)) 4) c fun b c=>a b c) (
 RR (sOp (.pick (.const d) (.const (.bool true)) (.const undef)) 4) e fun b c=>a b c)) fun d e=>
 aj d false (
 RR (sOp (.index 9 (.const c) (.const (.int .i64 0))) 5) e fun e f=>
 RR (aq .eql 5 false true e (.int .u8 48)) f fun e f=>
 aj e true (
 RR (ar .len #[9] 3 [false] [c]) f fun c f=>
 RR (aq .gtr 3 false true c (.int .i64 1)) f fun c f=>
 aj c false (
 aj e true (
 RR (sOp (.pick (.const c) (.const (.bool true)) (.const b)) 4) f fun b c=>
 aj d false (
 RR (sOp (.pick (.const e) (.const b) (.const (.bool false))) 4) c fun b c=>
 RR (sOp (.pick (.const d) (.const (.bool true)) (.const b)) 4) c fun b c=>
 a b c) (
 RR (sOp (.pick (.const d) (.const (.bool true)) (.const undef)) 4) c fun b c=>
 a b c)) (
 aj d false (
 RR (sOp (.pick (.const e) (.const undef) (.const (.bool false))) 4) f fun b c=>
 RR (sOp (.pick (.const d) (.const (.bool true)) (.const b)) 4) c fun b c=>
 a b c) (
 RR (sOp (.pick (.const d) (.const (.bool true)) (.const undef)) 4) f fun b c=>
 a b c))) (
 aj e true (
 RR (sOp (.pick (.const c) (.const (.bool true)) (.const undef)) 4) f fun b c=>
 aj d false (
 RR (sOp (.pick (.const e) (.const b) (.const (.bool false))) 4) c fun b c=>
 RR (sOp (.pick (.const d) (.const (.bool true)) (.const b)) 4) c fun b c=>
 a b c) (
 RR (sOp (.pick (.const d) (.const (.bool true)) (.const undef)) 4) c fun b c=>
 a b c)) (
 aj d false (
 RR (sOp (.pick (.const e) (.const undef) (.const (.bool false))) 4) f fun b c=>
 RR (sOp (.pick (.const d) (.const (.bool true)) (.const b)) 4) c fun b c=>
 a b c) (
 RR (sOp (.pick (.const d) (.const (.bool true)) (.const undef)) 4) f fun b c=>
 a b c)))) (
 aj undef false (
 aj e true (
 RR (sOp (.pick (.const undef) (.const (.bool true)) (.const b)) 4) f fun b c=>
 aj d false (
 RR (sOp (.pick (.const e) (.const b) (.const (.bool false))) 4) c fun b c=>
 RR (sOp (.pick (.const d) (.const (.bool true)) (.const b)) 4) c fun b c=>
 a b c) (
 RR (sOp (.pick (.const d) (.const (.bool true)) (.const undef)) 4) c fun b c=>
 a b c)) (
 aj d false (
 RR (sOp (.pick (.const e) (.const undef) (.const (.bool false))) 4) f fun b c=>
 RR (sOp (.pick (.const d) (.const (.bool true)) (.const b)) 4) c fun b c=>
 a b c) (
 RR (sOp (.pick (.const d) (.const (.bool true)) (.const undef)) 4) f fun b c=>
 a b c))) (
 aj e true (
 RR (sOp (.pick (.const undef) (.const (.bool true)) (.const undef)) 4) f fun b c=>
 aj d false (
 RR (sOp (.pick (.const e) (.const b) (.const (.bool false))) 4) c fun b c=>
 RR (sOp (.pick (.const d) (.const (.bool true)) (.const b)) 4) c fun b c=>
 a b c) (
 RR (sOp (.pick (.const d) (.const (.bool true)) (.const undef)) 4) c fun b c=>
 a b c)) (
 aj d false (
 RR (sOp (.pick (.const e) (.const undef) (.const (.bool false))) 4) f fun b c=>
 RR (sOp (.pick (.const d) (.const (.bool true)) (.const b)) 4) c fun b c=>
 a b c) (
 RR (sOp (.pick (.const d) (.const (.bool true)) (.const undef)) 4) f fun b c=>
 a b c))))) (
 aj undef true (
 RR (ar .len #[9] 3 [false] [c]) e fun c e=>
 RR (aq .gtr 3 false true c (.int .i64 1)) e fun c e=>
 aj c false (
 aj undef true (
 RR (sOp (.pick (.const c) (.const (.bool true)) (.const b)) 4) e fun b c=>
 aj d false (
 RR (sOp (.pick (.const undef) (.const b) (.const (.bool false))) 4) c fun b c=>
 RR (sOp (.pick (.const d) (.const (.bool true)) (.const b)) 4) c fun b c=>
 a b c) (
 RR (sOp (.pick (.const d) (.const (.bool true)) (.const undef)) 4) c fun b c=>
 a b c)) (
 aj d false (
 RR (sOp (.pick (.const undef) (.const undef) (.const (.bool false))) 4) e fun b c=>
 RR (sOp (.pick (.const d) (.const (.bool true)) (.const b)) 4) c fun b c=>
 a b c) (
 RR (sOp (.pick (.const d) (.const (.bool true)) (.const undef)) 4) e fun b c=>
 a b c))) (
 aj undef true (
 RR (sOp (.pick (.const c) (.const (.bool true)) (.const undef)) 4) e fun b c=>
 aj d false (
 RR (sOp (.pick (.const undef) (.const b) (.const (.bool false))) 4) c fun b c=>
 RR (sOp (.pick (.const d) (.const (.bool true)) (.const b)) 4) c fun b c=>
 a b c) (
 RR (sOp (.pick (.const d) (.const (.bool true)) (.const undef)) 4) c fun b c=>
 a b c)) (
 aj d false (
 RR (sOp (.pick (.const undef) (.const undef) (.const (.bool false))) 4) e fun b c=>
 RR (sOp (.pick (.const d) (.const (.bool true)) (.const b)) 4) c fun b c=>
 a b c) (
 RR (sOp (.pick (.const d) (.const (.bool true)) (.const undef)) 4) e fun b c=>
 a b c)))) (
 aj undef false (
 aj undef true (
 RR (sOp (.pick (.const undef) (.const (.bool true)) (.const b)) 4) e fun b c=>
 aj d false (
 RR (sOp (.pick (.const undef) (.const b) (.const (.bool false))) 4) c fun b c=>
 RR (sOp (.pick (.const d) (.const (.bool true)) (.const b)) 4) c fun b c=>
 a b c) (
 RR (sOp (.pick (.const d) (.const (.bool true)) (.const undef)) 4) c fun b c=>
 a b c)) (
 aj d false (
 RR (sOp (.pick (.const undef) (.const undef) (.const (.bool false))) 4) e fun b c=>
 RR (sOp (.pick (.const d) (.const (.bool true)) (.const b)) 4) c fun b c=>
 a b c) (
 RR (sOp (.pick (.const d) (.const (.bool true)) (.const undef)) 4) e fun b c=>
 a b c))) (
 aj undef true (
 RR (sOp (.pick (.const undef) (.const (.bool true)) (.const undef)) 4) e fun b c=>
 aj d false (
 RR (sOp (.pick (.const undef) (.const b) (.const (.bool false))) 4) c fun b c=>
 RR (sOp (.pick (.const d) (.const (.bool true)) (.const b)) 4) c fun b c=>
 a b c) (
 RR (sOp (.pick (.const d) (.const (.bool true)) (.const undef)) 4) c fun b c=>
 a b c)) (
 aj d false (
 RR (sOp (.pick (.const undef) (.const undef) (.const (.bool false))) 4) e fun b c=>
 RR (sOp (.pick (.const d) (.const (.bool true)) (.const b)) 4) c fun b c=>
 a b c) (
 RR (sOp (.pick (.const d) (.const (.bool true)) (.const undef)) 4) e fun b c=>
 a b c)))))))/\
 ∀ d _ _ _ _ _ _ _ _ _ _ _ _ _ _ _ _ _ _ _ _:Value,∀ e:World,a d e->
 CondV d (
 R (.returned (.tuple #[(.int .i64 0),(.bool false)])) e) (
 (∃ (a:Value->Value->World->Prop) (d:Value->Value->World->Nat),a (.int .i64 0) (.int .i64 0) e/\
 ∀ e _ _ f _ _ _ _ _ _ _ _ _ _ _ _ _ _ _ _ _ _ _ _ _ _ _ _:Value,∀ g:World,a e f g->
 RR (ar .len #[9] 3 [false] [c]) g fun h i=>
 RR (aq .lss 3 false false e h) i fun h i=>
 CondV h (
 (∃ b:Value->World->Prop,(
 RR (sOp (.index 9 (.const c) (.const e)) 5) i fun a d=>
 RR (aq .lss 5 false true a (.int .u8 48)) d fun a d=>
 aj a false (
 RR (sOp (.index 9 (.const c) (.const e)) 5) d fun c d=>
 RR (aq .gtr 5 false true c (.int .u8 57)) d fun c d=>
 RR (sOp (.pick (.const a) (.const (.bool true)) (.const c)) 4) d fun a c=>
 b a c) (
 RR (sOp (.pick (.const a) (.const (.bool true)) (.const undef)) 4) d fun a c=>
 b a c))/\
 ∀ h _ _ _ _ _ _ _ _ _:Value,∀ i:World,b h i->
 CondV h (
 R (.returned (.tuple #[(.int .i64 0),(.bool false)])) i) (
 RR (aq .mul 3 false true f (.int .i64 10)) i fun b h=>
 RR (sOp (.index 9 (.const c) (.const e)) 5) h fun c h=>
 RR (aq .sub 5 false true c (.int .u8 48)) h fun c h=>
 RR (sOp (.convert 5 3 (.const c)) 3) h fun c h=>
 RR (aq .add 3 false false b c) h fun b c=>
 RR (aq .add 3 false true e (.int .i64 1)) c fun c h=>
 a c b h/\d c b h<d e f g))) (
 (∃ a:Value->World->Prop,(
 CondV b (
 RR (sOp (.unOp .neg 3 (.const f)) 3) i fun b c=>
 a b c) (
 a f i))/\
 ∀ b _ _ _:Value,∀ c:World,a b c->
 R (.returned (.tuple #[b,(.bool true)])) c)))))))
theorem zr {p0:Value} {w:World} {R:Ending->World->Prop} (h:wI p0 w R):Calls Tryz.prog 173 #[p0] w R:=
  aK (.seq none .leaf (.seq (some [4]) .leaf (.seq (some [0]) .leaf (.seq none (.seq (some [38]) .leaf .leaf) (.seq none .leaf (.seq none (.seq none .leaf (.one (.loop [6,5] (.seq none .leaf (.seq none (.one (.seq none (.seq (some [54]) .leaf .leaf) .leaf)) .leaf))))) (.seq (some [5]) .leaf .leaf))))))) [p0] be Tryz.func173 (by kernel_rfl) (by kernel_rfl) h


/- loop.example/prologserver/spec.l1Chain : function 174 -/
def sz (p0 p1:Value) (w:World) (R:Ending->World->Prop):Prop:=
 RR (sOp (.box 25 (.const p1)) 0) w fun a b=>
 RR (sOp (.alloc 25) 0) b fun b c=>
 RR (sOp (.load 25 (.const a)) 25) c fun a c=>
 RR (sOp (.alloc 25) 0) c fun c d=>
 RR (sOp (.store 25 (.const c) (.const a)) 0) d fun _ a=>
 RR (ar .len #[23] 3 [false] [p0]) a fun a d=>
 RR (aq .sub 3 false true a (.int .i64 1)) d fun a d=>
 (∃ (e:Value->World->Prop) (f:Value->World->Nat),e a d/\
 ∀ a _ _ d g h i j k l _ _:Value,∀ m:World,e a m->
 RR (aq .geq 3 false true a (.int .i64 0)) m fun n o=>
 CondV n (
 (∃ b:(Nat->Bool)->Value->Value->Value->Value->Value->Value->Value->World->Prop,b (fun _=>false) d g h i j k l { o with drawn:=o.drawn+1 }/\(
 (∀ a:Nat->Bool,a 0=false->∀ c d e f g h i j,b a c d e f g h i j->
 b (ay a 0) c d e f g h p0 j)/\
 (∀ c:Nat->Bool,c 1=false->∀ d e f g h i j k,b c d e f g h i j k->
 b (ay c 1) d e f g h a j k)/\
 (∀ a:Nat->Bool,a 2=false->a 0=true->a 1=true->∀ c d e f g h i j,b a c d e f g h i j->
 RR (sOp (.indexAddr 23 (.const i) (.const h)) 0) j fun g j=>
 b (ay a 2) c d e f g h i j)/\
 (∀ a:Nat->Bool,a 3=false->a 2=true->∀ c d e f g h i j,b a c d e f g h i j->
 RR (sOp (.load 25 (.const g)) 25) j fun f j=>
 b (ay a 3) c d e f g h i j)/\
 (∀ a:Nat->Bool,a 4=false->∀ d e f g h i j k,b a d e f g h i j k->
 RR (sOp (.load 25 (.const c)) 25) k fun c f=>
 b (ay a 4) d e c g h i j f)/\
 (∀ a:Nat->Bool,a 5=false->a 3=true->a 4=true->∀ c d e f g h i j,b a c d e f g h i j->
 RR (aS 23 2 [(0,f),(1,e)]) j fun d j=>
 b (ay a 5) c d e f g h i j)/\
 (∀ a:Nat->Bool,a 6=false->a 5=true->∀ c d e f g h i j,b a c d e f g h i j->
 RR (aH (.func (.func 78) #[] #[]) [(.string ⟨#[46]⟩),d]) j fun c j=>
 b (ay a 6) c d e f g h i j)/\
 (∀ a:Nat->Bool,a 7=false->a 6=true->a 6=true->a 0=true->a 1=true->a 2=true->a 3=true->a 4=true->a 5=true->a 6=true->∀ d e f g h i j k,b a d e f g h i j k->
 RR (sOp (.store 25 (.const c) (.const d)) 0) k fun _ c=>
 b (ay a 7) d e f g h i j c)/\
 True)/\
 ∀ c:Nat->Bool,c 7=true->c 6=true->c 5=true->c 4=true->c 3=true->c 2=true->c 1=true->c 0=true->∀ d g h i j k l n,b c d g h i j k l n->
 RR (aq .sub 3 false true a (.int .i64 1)) n fun b c=>
 e b c/\f b c<f a m)) (
 RR (sOp (.load 25 (.const c)) 25) o fun a c=>
 RR (sOp (.store 25 (.const b) (.const a)) 0) c fun _ a=>
 (bd Tryz.prog 25 b a fun b=>R (.returned b) a)))
theorem x1 {p0 p1:Value} {w:World} {R:Ending->World->Prop} (h:sz p0 p1 w R):Calls Tryz.prog 174 #[p0,p1] w R:=
  aK (.seq none .leaf (.seq none .leaf (.seq none (.seq none .leaf (.one (.loop [6] .leaf))) .leaf))) [p0,p1] be Tryz.func174 (by kernel_rfl) (by kernel_rfl) h


/- loop.example/prologserver/spec.l1Small : function 175 -/
def tP (p0 p1:Value) (w:World) (R:Ending->World->Prop):Prop:=
 RR (aq .geq 3 false true p1 (.int .i64 0)) w fun a b=>
 ((fun c:VW=>aj a true (
 RR (ar .len #[9] 3 [false] [p0]) b fun b d=>
 RR (aq .lss 3 false false p1 b) d fun b d=>
 RR (sOp (.pick (.const a) (.const b) (.const (.bool false))) 4) d fun a b=>c a b) (
 RR (sOp (.pick (.const a) (.const undef) (.const (.bool false))) 4) b fun a b=>c a b)) fun a b=>
 ((fun c:VW=>aj a true (
 RR (sOp (.index 9 (.const p0) (.const p1)) 5) b fun b d=>
 RR (aq .geq 5 false true b (.int .u8 97)) d fun b d=>
 RR (sOp (.pick (.const a) (.const b) (.const (.bool false))) 4) d fun a b=>c a b) (
 RR (sOp (.pick (.const a) (.const undef) (.const (.bool false))) 4) b fun a b=>c a b)) fun a b=>
 aj a true (
 RR (sOp (.index 9 (.const p0) (.const p1)) 5) b fun b c=>
 RR (aq .leq 5 false true b (.int .u8 122)) c fun b c=>
 RR (sOp (.pick (.const a) (.const b) (.const (.bool false))) 4) c fun a b=>
 R (.returned a) b) (
 RR (sOp (.pick (.const a) (.const undef) (.const (.bool false))) 4) b fun a b=>
 R (.returned a) b)))
theorem yq {p0 p1:Value} {w:World} {R:Ending->World->Prop} (h:tP p0 p1 w R):Calls Tryz.prog 175 #[p0,p1] w R:=
  aK .leaf [p0,p1] be Tryz.func175 (by kernel_rfl) (by kernel_rfl) h


/- loop.example/prologserver/spec.l1Signs : function 176 -/
def tp (w:World) (R:Ending->World->Prop):Prop:=
 RR (aS 67 15 [(0,(.string ⟨#[43]⟩)),(1,(.string ⟨#[45]⟩)),(2,(.string ⟨#[42]⟩)),(3,(.string ⟨#[47,47]⟩)),(4,(.string ⟨#[61]⟩)),(5,(.string ⟨#[92,61]⟩)),(6,(.string ⟨#[61,61]⟩)),(7,(.string ⟨#[60]⟩)),(8,(.string ⟨#[62]⟩)),(9,(.string ⟨#[61,60]⟩)),(10,(.string ⟨#[62,61]⟩)),(11,(.string ⟨#[61,58,61]⟩)),(12,(.string ⟨#[46]⟩)),(13,(.string ⟨#[91,93]⟩)),(14,(.string ⟨#[33]⟩))]) w fun a b=>
 R (.returned a) b
theorem xp {w:World} {R:Ending->World->Prop} (h:tp w R):Calls Tryz.prog 176 #[] w R:=
  aK .leaf [] be Tryz.func176 (by kernel_rfl) (by kernel_rfl) h


/- loop.example/prologserver/spec.l1Letter : function 177 -/
def qJ (p0:Value) (w:World) (R:Ending->World->Prop):Prop:=
 RR (sOp (.convert 3 5 (.const p0)) 5) w fun a b=>
 RR (aq .add 5 true false (.int .u8 65) a) b fun a b=>
 RR (aS 22 1 [(0,a)]) b fun a b=>
 RR (sOp (.convert 22 9 (.const a)) 9) b fun a b=>
 R (.returned a) b
theorem vw {p0:Value} {w:World} {R:Ending->World->Prop} (h:qJ p0 w R):Calls Tryz.prog 177 #[p0] w R:=
  aK .leaf [p0] be Tryz.func177 (by kernel_rfl) (by kernel_rfl) h


/- loop.example/prologserver/spec.l1Dec : function 178 -/
def zv (p0:Value) (w:World) (R:Ending->World->Prop):Prop:=
 RR (aq .lss 3 false true p0 (.int .i64 0)) w fun a b=>
 CondV a (
 RR (sOp (.unOp .neg 3 (.const p0)) 3) b fun a b=>
 RR (aH (.func (.func 190) #[] #[]) [a]) b fun a b=>
 RR (aq .add 9 true false (.string ⟨#[45]⟩) a) b fun a b=>
 R (.returned a) b) (
 RR (aH (.func (.func 190) #[] #[]) [p0]) b fun a b=>
 R (.returned a) b)
theorem Cc {p0:Value} {w:World} {R:Ending->World->Prop} (h:zv p0 w R):Calls Tryz.prog 178 #[p0] w R:=
  aK .leaf [p0] be Tryz.func178 (by kernel_rfl) (by kernel_rfl) h


/- loop.example/prologserver/spec.l1Pair : function 179 -/
def wi (p0:Value) (w:World) (R:Ending->World->Prop):Prop:=
 RR (sOp (.box 25 (.const p0)) 0) w fun a b=>
 RR (sOp (.fieldAddr 25 (.const a) 0) 0) b fun b c=>
 RR (sOp (.load 3 (.const b)) 3) c fun b c=>
 RR (aq .eql 3 false true b (.int .i64 3)) c fun b c=>
 ((fun d:VW=>aj b true (
 RR (sOp (.fieldAddr 25 (.const a) 2) 0) c fun a c=>
 RR (sOp (.load 9 (.const a)) 9) c fun a c=>
 RR (aq .eql 9 false true a (.string ⟨#[46]⟩)) c fun a c=>
 RR (sOp (.pick (.const b) (.const a) (.const (.bool false))) 4) c fun a b=>d a b) (
 RR (sOp (.pick (.const b) (.const undef) (.const (.bool false))) 4) c fun a b=>d a b)) fun b c=>
 aj b true (
 RR (sOp (.fieldAddr 25 (.const a) 3) 0) c fun a c=>
 RR (sOp (.load 23 (.const a)) 23) c fun a c=>
 RR (ar .len #[23] 3 [false] [a]) c fun a c=>
 RR (aq .eql 3 false true a (.int .i64 2)) c fun a c=>
 RR (sOp (.pick (.const b) (.const a) (.const (.bool false))) 4) c fun a b=>
 R (.returned a) b) (
 RR (sOp (.pick (.const b) (.const undef) (.const (.bool false))) 4) c fun a b=>
 R (.returned a) b))
theorem zo {p0:Value} {w:World} {R:Ending->World->Prop} (h:wi p0 w R):Calls Tryz.prog 179 #[p0] w R:=
  aK .leaf [p0] be Tryz.func179 (by kernel_rfl) (by kernel_rfl) h


/- loop.example/prologserver/spec.NameValid : function 181 -/
def pv (p0:Value) (w:World) (R:Ending->World->Prop):Prop:=
 RR (aH (.func (.func 162) #[] #[]) [p0]) w fun a b=>
 aj a false (
 RR (aH (.func (.func 176) #[] #[]) []) b fun b c=>
 RR (aH (.func (.func 192) #[] #[]) [b,p0]) c fun b c=>
 RR (sOp (.pick (.const a) (.const (.bool true)) (.const b)) 4) c fun a b=>
 R (.returned a) b) (
 RR (sOp (.pick (.const a) (.const (.bool true)) (.const undef)) 4) b fun a b=>
 R (.returned a) b)
theorem tX {p0:Value} {w:World} {R:Ending->World->Prop} (h:pv p0 w R):Calls Tryz.prog 181 #[p0] w R:=
  aK .leaf [p0] be Tryz.func181 (by kernel_rfl) (by kernel_rfl) h


/- loop.example/prologserver/spec.l4Cut : function 184 -/
def yT (p0:Value) (w:World) (R:Ending->World->Prop):Prop:=
 RR (sOp (.box 25 (.const p0)) 0) w fun a b=>
 RR (sOp (.fieldAddr 25 (.const a) 0) 0) b fun b c=>
 RR (sOp (.load 3 (.const b)) 3) c fun b c=>
 RR (aq .eql 3 false true b (.int .i64 3)) c fun b c=>
 ((fun d:VW=>aj b true (
 RR (sOp (.fieldAddr 25 (.const a) 2) 0) c fun a c=>
 RR (sOp (.load 9 (.const a)) 9) c fun a c=>
 RR (aq .eql 9 false true a (.string ⟨#[33]⟩)) c fun a c=>
 RR (sOp (.pick (.const b) (.const a) (.const (.bool false))) 4) c fun a b=>d a b) (
 RR (sOp (.pick (.const b) (.const undef) (.const (.bool false))) 4) c fun a b=>d a b)) fun b c=>
 aj b true (
 RR (sOp (.fieldAddr 25 (.const a) 3) 0) c fun a c=>
 RR (sOp (.load 23 (.const a)) 23) c fun a c=>
 RR (ar .len #[23] 3 [false] [a]) c fun a c=>
 RR (aq .eql 3 false true a (.int .i64 0)) c fun a c=>
 RR (sOp (.pick (.const b) (.const a) (.const (.bool false))) 4) c fun a b=>
 R (.returned a) b) (
 RR (sOp (.pick (.const b) (.const undef) (.const (.bool false))) 4) c fun a b=>
 R (.returned a) b))
theorem Bg {p0:Value} {w:World} {R:Ending->World->Prop} (h:yT p0 w R):Calls Tryz.prog 184 #[p0] w R:=
  aK .leaf [p0] be Tryz.func184 (by kernel_rfl) (by kernel_rfl) h


/- loop.example/prologserver/impl.isAtom : function 185 -/
def wE (p0:Value) (w:World) (R:Ending->World->Prop):Prop:=
 RR (sOp (.box 25 (.const p0)) 0) w fun a b=>
 RR (sOp (.fieldAddr 25 (.const a) 0) 0) b fun b c=>
 RR (sOp (.load 3 (.const b)) 3) c fun b c=>
 RR (aq .eql 3 false true b (.int .i64 3)) c fun b c=>
 aj b true (
 RR (sOp (.fieldAddr 25 (.const a) 3) 0) c fun a c=>
 RR (sOp (.load 23 (.const a)) 23) c fun a c=>
 RR (ar .len #[23] 3 [false] [a]) c fun a c=>
 RR (aq .eql 3 false true a (.int .i64 0)) c fun a c=>
 RR (sOp (.pick (.const b) (.const a) (.const (.bool false))) 4) c fun a b=>
 R (.returned a) b) (
 RR (sOp (.pick (.const b) (.const undef) (.const (.bool false))) 4) c fun a b=>
 R (.returned a) b)
theorem yP {p0:Value} {w:World} {R:Ending->World->Prop} (h:wE p0 w R):Calls Tryz.prog 185 #[p0] w R:=
  aK .leaf [p0] be Tryz.func185 (by kernel_rfl) (by kernel_rfl) h


/- loop.example/prologserver/spec.l2Items : function 187 -/
def tI (p0 p1 p2:Value) (w:World) (R:Ending->World->Prop):Prop:=
 RR (sOp (.alloc 25) 0) w fun a b=>
 RR (aH (.func (.func 188) #[] #[]) [p0,p1,p2,(.int .u8 93),(.int .u8 124)]) b fun b c=>
 RR (sOp (.extract (.const b) 0) 23) c fun c d=>
 RR (sOp (.extract (.const b) 1) 3) d fun b d=>
 RR (aq .lss 3 false true b (.int .i64 0)) d fun d e=>
 CondV d (
 RR (dy 25 []) e fun c d=>
 RR (sOp (.store 25 (.const a) (.const c)) 0) d fun _ c=>
 (bd Tryz.prog 25 a c fun a=>R (.returned (.tuple #[a,b])) c)) (
 RR (aH (.func (.func 147) #[] #[]) [p0,b,(.int .u8 93)]) e fun d e=>
 CondV d (
 RR (aH (.func (.func 78) #[] #[]) [(.string ⟨#[91,93]⟩),(Value.slice none 0 0)]) e fun d e=>
 RR (aH (.func (.func 174) #[] #[]) [c,d]) e fun c d=>
 RR (aq .add 3 false true b (.int .i64 1)) d fun b d=>
 RR (sOp (.store 25 (.const a) (.const c)) 0) d fun _ c=>
 (bd Tryz.prog 25 a c fun a=>R (.returned (.tuple #[a,b])) c)) (
 RR (aq .add 3 false true b (.int .i64 1)) e fun b d=>
 RR (aH (.func (.func 146) #[] #[]) [p0,b,p2,(.int .i64 3)]) d fun b d=>
 RR (sOp (.extract (.const b) 0) 25) d fun d e=>
 RR (sOp (.extract (.const b) 1) 3) e fun b e=>
 RR (sOp (.alloc 25) 0) e fun e f=>
 RR (sOp (.store 25 (.const e) (.const d)) 0) f fun _ d=>
 RR (aq .lss 3 false true b (.int .i64 0)) d fun d f=>
 CondV d (
 RR (dy 25 []) f fun c d=>
 RR (sOp (.store 25 (.const a) (.const c)) 0) d fun _ c=>
 (bd Tryz.prog 25 a c fun a=>R (.returned (.tuple #[a,b])) c)) (
 RR (aH (.func (.func 147) #[] #[]) [p0,b,(.int .u8 93)]) f fun d f=>
 RR (sOp (.unOp .not 4 (.const d)) 4) f fun d f=>
 CondV d (
 RR (aH (.func (.func 186) #[] #[]) [b]) f fun b c=>
 RR (sOp (.extract (.const b) 0) 25) c fun c d=>
 RR (sOp (.extract (.const b) 1) 3) d fun b d=>
 RR (sOp (.store 25 (.const a) (.const c)) 0) d fun _ c=>
 (bd Tryz.prog 25 a c fun a=>R (.returned (.tuple #[a,b])) c)) (
 RR (sOp (.load 25 (.const e)) 25) f fun d e=>
 RR (aH (.func (.func 174) #[] #[]) [c,d]) e fun c d=>
 RR (aq .add 3 false true b (.int .i64 1)) d fun b d=>
 RR (sOp (.store 25 (.const a) (.const c)) 0) d fun _ c=>
 (bd Tryz.prog 25 a c fun a=>R (.returned (.tuple #[a,b])) c)))))
theorem xn {p0 p1 p2:Value} {w:World} {R:Ending->World->Prop} (h:tI p0 p1 p2 w R):Calls Tryz.prog 187 #[p0,p1,p2] w R:=
  aK .leaf [p0,p1,p2] be Tryz.func187 (by kernel_rfl) (by kernel_rfl) h


/- loop.example/prologserver/spec.l2Terms : function 188 -/
def ug (p0 p1 p2 p3 p4:Value) (w:World) (R:Ending->World->Prop):Prop:=
 RR (aS 23 0 []) w fun a b=>
 (∃ (c:Value->Value->World->Prop) (d:Value->Value->World->Nat),c p1 a b/\
 ∀ a _ _ _ _ _ _ _ _ _ _ _ _ _ _ _ _ _ _ _ _ b _ _ _ _ _ _ _ _ _ _ _ _ _ _ _ _ _ _:Value,∀ e:World,c a b e->
 RR (aH (.func (.func 146) #[] #[]) [p0,a,p2,(.int .i64 3)]) e fun f g=>
 RR (sOp (.extract (.const f) 0) 25) g fun g h=>
 RR (sOp (.extract (.const f) 1) 3) h fun f h=>
 RR (sOp (.alloc 25) 0) h fun h i=>
 RR (sOp (.store 25 (.const h) (.const g)) 0) i fun _ g=>
 RR (aq .lss 3 false true f (.int .i64 0)) g fun g i=>
 CondV g (
 R (.returned (.tuple #[(Value.slice none 0 0),f])) i) (
 RR (sOp (.load 25 (.const h)) 25) i fun g h=>
 RR (aS 23 1 [(0,g)]) h fun g h=>
 RR (ar .append #[23,23] 23 [false,false] [b,g]) h fun g h=>
 (∃ i:Value->World->Prop,(
 RR (aH (.func (.func 147) #[] #[]) [p0,f,p3]) h fun a b=>
 aj a false (
 RR (aH (.func (.func 147) #[] #[]) [p0,f,p4]) b fun b c=>
 RR (sOp (.pick (.const a) (.const (.bool true)) (.const b)) 4) c fun a b=>
 i a b) (
 RR (sOp (.pick (.const a) (.const (.bool true)) (.const undef)) 4) b fun a b=>
 i a b))/\
 ∀ h _ _ _ _ _ _ _ _ _:Value,∀ j:World,i h j->
 CondV h (
 R (.returned (.tuple #[g,f])) j) (
 RR (aH (.func (.func 147) #[] #[]) [p0,f,(.int .u8 44)]) j fun h i=>
 RR (sOp (.unOp .not 4 (.const h)) 4) i fun h i=>
 CondV h (
 RR (aq .sub 3 true false (.int .i64 (-1)) f) i fun a b=>
 R (.returned (.tuple #[(Value.slice none 0 0),a])) b) (
 RR (aq .add 3 false true f (.int .i64 1)) i fun f h=>
 c f g h/\d f g h<d a b e)))))
theorem yg {p0 p1 p2 p3 p4:Value} {w:World} {R:Ending->World->Prop} (h:ug p0 p1 p2 p3 p4 w R):Calls Tryz.prog 188 #[p0,p1,p2,p3,p4] w R:=
  aK (.seq none .leaf (.seq none .leaf (.one (.loop [1,12] (.one (.seq none .leaf (.seq none .leaf (.seq none .leaf (.seq none (.seq (some [39]) .leaf .leaf) .leaf))))))))) [p0,p1,p2,p3,p4] be Tryz.func188 (by kernel_rfl) (by kernel_rfl) h


/- loop.example/prologserver/spec.l2Text : function 189 -/
def wR (p0:Value) (w:World) (R:Ending->World->Prop):Prop:=
 RR (sOp (.box 25 (.const p0)) 0) w fun a b=>
 RR (sOp (.load 25 (.const a)) 25) b fun b c=>
 RR (aH (.func (.func 179) #[] #[]) [b]) c fun b c=>
 CondV b (
 RR (sOp (.load 25 (.const a)) 25) c fun a b=>
 RR (aH (.func (.func 194) #[] #[]) [a]) b fun a b=>
 R (.returned a) b) (
 RR (sOp (.load 25 (.const a)) 25) c fun b c=>
 RR (aH (.func (.func 195) #[] #[]) [b]) c fun b c=>
 CondV b (
 RR (sOp (.fieldAddr 25 (.const a) 2) 0) c fun b c=>
 RR (sOp (.load 9 (.const b)) 9) c fun b c=>
 RR (aH (.func (.func 164) #[] #[]) [b]) c fun b c=>
 (∃ d:Value->World->Prop,(
 RR (aq .eql 3 false true b (.int .i64 3)) c fun a c=>
 CondV a (
 d (.int .i64 2) c) (
 d b c))/\
 ∀ c _ _:Value,∀ e:World,d c e->
 (∃ d:(Nat->Bool)->Value->Value->Value->Value->Value->Value->Value->Value->Value->Value->Value->Value->Value->Value->Value->Value->Value->Value->Value->World->Prop,d (fun _=>false) (.string ⟨#[]⟩) undef undef undef undef undef undef undef undef undef undef undef undef undef undef undef undef undef undef { e with drawn:=e.drawn+1 }/\(
 (∀ b:Nat->Bool,b 0=false->∀ c e f g h i j k l m n o p q r s t u v x,d b c e f g h i j k l m n o p q r s t u v x->
 RR (sOp (.fieldAddr 25 (.const a) 3) 0) x fun a v=>
 d (ay b 0) c e f g h i j k l m n o p q r s t u a v)/\
 (∀ a:Nat->Bool,a 1=false->a 0=true->∀ b c e f g h i j k l m n o p q r s t u v,d a b c e f g h i j k l m n o p q r s t u v->
 RR (sOp (.load 23 (.const u)) 23) v fun t v=>
 d (ay a 1) b c e f g h i j k l m n o p q r s t u v)/\
 (∀ a:Nat->Bool,a 2=false->a 1=true->∀ b c e f g h i j k l m n o p q r s t u v,d a b c e f g h i j k l m n o p q r s t u v->
 RR (sOp (.indexAddr 23 (.const t) (.const (.int .i64 0))) 0) v fun s v=>
 d (ay a 2) b c e f g h i j k l m n o p q r s t u v)/\
 (∀ a:Nat->Bool,a 3=false->a 2=true->∀ b c e f g h i j k l m n o p q r s t u v,d a b c e f g h i j k l m n o p q r s t u v->
 RR (sOp (.load 25 (.const s)) 25) v fun r v=>
 d (ay a 3) b c e f g h i j k l m n o p q r s t u v)/\
 (∀ a:Nat->Bool,a 4=false->∀ b e f g h i j k l m n o p q r s t u v x,d a b e f g h i j k l m n o p q r s t u v x->
 d (ay a 4) b e f g h i j k l m n o p q c s t u v x)/\
 (∀ a:Nat->Bool,a 5=false->a 3=true->a 4=true->∀ b c e f g h i j k l m n o p q r s t u v,d a b c e f g h i j k l m n o p q r s t u v->
 RR (aH (.func (.func 196) #[] #[]) [r,q]) v fun p v=>
 d (ay a 5) b c e f g h i j k l m n o p q r s t u v)/\
 (∀ b:Nat->Bool,b 6=false->∀ c e f g h i j k l m n o p q r s t u v x,d b c e f g h i j k l m n o p q r s t u v x->
 RR (sOp (.fieldAddr 25 (.const a) 2) 0) x fun a p=>
 d (ay b 6) c e f g h i j k l m n o a q r s t u v p)/\
 (∀ a:Nat->Bool,a 7=false->a 6=true->∀ b c e f g h i j k l m n o p q r s t u v,d a b c e f g h i j k l m n o p q r s t u v->
 RR (sOp (.load 9 (.const o)) 9) v fun n v=>
 d (ay a 7) b c e f g h i j k l m n o p q r s t u v)/\
 (∀ a:Nat->Bool,a 8=false->a 7=true->a 5=true->∀ b c e f g h i j k l m n o p q r s t u v,d a b c e f g h i j k l m n o p q r s t u v->
 RR (aH (.func (.func 197) #[] #[]) [n]) v fun m v=>
 d (ay a 8) b c e f g h i j k l m n o p q r s t u v)/\
 (∀ a:Nat->Bool,a 9=false->a 5=true->a 8=true->∀ b c e f g h i j k l m n o p q r s t u v,d a b c e f g h i j k l m n o p q r s t u v->
 RR (aq .add 9 false false p m) v fun l v=>
 d (ay a 9) b c e f g h i j k l m n o p q r s t u v)/\
 (∀ b:Nat->Bool,b 10=false->∀ c e f g h i j k l m n o p q r s t u v x,d b c e f g h i j k l m n o p q r s t u v x->
 RR (sOp (.fieldAddr 25 (.const a) 3) 0) x fun a l=>
 d (ay b 10) c e f g h i j k a m n o p q r s t u v l)/\
 (∀ a:Nat->Bool,a 11=false->a 10=true->∀ b c e f g h i j k l m n o p q r s t u v,d a b c e f g h i j k l m n o p q r s t u v->
 RR (sOp (.load 23 (.const k)) 23) v fun j v=>
 d (ay a 11) b c e f g h i j k l m n o p q r s t u v)/\
 (∀ a:Nat->Bool,a 12=false->a 11=true->∀ b c e f g h i j k l m n o p q r s t u v,d a b c e f g h i j k l m n o p q r s t u v->
 RR (sOp (.indexAddr 23 (.const j) (.const (.int .i64 1))) 0) v fun i v=>
 d (ay a 12) b c e f g h i j k l m n o p q r s t u v)/\
 (∀ a:Nat->Bool,a 13=false->a 12=true->∀ b c e f g h i j k l m n o p q r s t u v,d a b c e f g h i j k l m n o p q r s t u v->
 RR (sOp (.load 25 (.const i)) 25) v fun h v=>
 d (ay a 13) b c e f g h i j k l m n o p q r s t u v)/\
 (∀ a:Nat->Bool,a 14=false->∀ c e f g h i j k l m n o p q r s t u v x,d a c e f g h i j k l m n o p q r s t u v x->
 d (ay a 14) c e f g b i j k l m n o p q r s t u v x)/\
 (∀ a:Nat->Bool,a 15=false->a 14=true->∀ b c e f g h i j k l m n o p q r s t u v,d a b c e f g h i j k l m n o p q r s t u v->
 RR (aq .sub 3 false true g (.int .i64 1)) v fun f v=>
 d (ay a 15) b c e f g h i j k l m n o p q r s t u v)/\
 (∀ a:Nat->Bool,a 16=false->a 13=true->a 15=true->a 8=true->∀ b c e f g h i j k l m n o p q r s t u v,d a b c e f g h i j k l m n o p q r s t u v->
 RR (aH (.func (.func 198) #[] #[]) [h,f]) v fun e v=>
 d (ay a 16) b c e f g h i j k l m n o p q r s t u v)/\
 (∀ a:Nat->Bool,a 17=false->a 9=true->a 16=true->∀ b c e f g h i j k l m n o p q r s t u v,d a b c e f g h i j k l m n o p q r s t u v->
 RR (aq .add 9 false false l e) v fun c v=>
 d (ay a 17) b c e f g h i j k l m n o p q r s t u v)/\
 (∀ a:Nat->Bool,a 18=false->a 17=true->a 16=true->a 0=true->a 1=true->a 2=true->a 3=true->a 4=true->a 5=true->a 6=true->a 7=true->a 8=true->a 9=true->a 10=true->a 11=true->a 12=true->a 13=true->a 14=true->a 15=true->a 16=true->a 17=true->∀ b c e f g h i j k l m n o p q r s t u v,d a b c e f g h i j k l m n o p q r s t u v->
 d (ay a 18) c c e f g h i j k l m n o p q r s t u v)/\
 True)/\
 ∀ a:Nat->Bool,a 18=true->a 17=true->a 16=true->a 15=true->a 14=true->a 13=true->a 12=true->a 11=true->a 10=true->a 9=true->a 8=true->a 7=true->a 6=true->a 5=true->a 4=true->a 3=true->a 2=true->a 1=true->a 0=true->∀ b c e f g h i j k l m n o p q r s t u v,d a b c e f g h i j k l m n o p q r s t u v->
 R (.returned b) v))) (
 (∃ b:Value->World->Prop,(
 RR (sOp (.fieldAddr 25 (.const a) 0) 0) c fun c d=>
 RR (sOp (.load 3 (.const c)) 3) d fun c d=>
 RR (aq .eql 3 false true c (.int .i64 3)) d fun c d=>
 aj c true (
 RR (sOp (.fieldAddr 25 (.const a) 3) 0) d fun a d=>
 RR (sOp (.load 23 (.const a)) 23) d fun a d=>
 RR (ar .len #[23] 3 [false] [a]) d fun a d=>
 RR (aq .gtr 3 false true a (.int .i64 0)) d fun a d=>
 RR (sOp (.pick (.const c) (.const a) (.const (.bool false))) 4) d fun a c=>
 b a c) (
 RR (sOp (.pick (.const c) (.const undef) (.const (.bool false))) 4) d fun a c=>
 b a c))/\
 ∀ c _ _ _ _ _ _ _ _ _:Value,∀ d:World,b c d->
 CondV c (
 (∃ b:(Nat->Bool)->Value->Value->Value->Value->Value->Value->Value->Value->Value->World->Prop,b (fun _=>false) (.string ⟨#[]⟩) undef undef undef undef undef undef undef undef { d with drawn:=d.drawn+1 }/\(
 (∀ c:Nat->Bool,c 0=false->∀ d e f g h i j k l m,b c d e f g h i j k l m->
 RR (sOp (.fieldAddr 25 (.const a) 2) 0) m fun a l=>
 b (ay c 0) d e f g h i j k a l)/\
 (∀ a:Nat->Bool,a 1=false->a 0=true->∀ c d e f g h i j k l,b a c d e f g h i j k l->
 RR (sOp (.load 9 (.const k)) 9) l fun j l=>
 b (ay a 1) c d e f g h i j k l)/\
 (∀ a:Nat->Bool,a 2=false->a 1=true->∀ c d e f g h i j k l,b a c d e f g h i j k l->
 RR (aq .add 9 false true j (.string ⟨#[40]⟩)) l fun i l=>
 b (ay a 2) c d e f g h i j k l)/\
 (∀ c:Nat->Bool,c 3=false->∀ d e f g h i j k l m,b c d e f g h i j k l m->
 RR (sOp (.fieldAddr 25 (.const a) 3) 0) m fun a i=>
 b (ay c 3) d e f g h a j k l i)/\
 (∀ a:Nat->Bool,a 4=false->a 3=true->∀ c d e f g h i j k l,b a c d e f g h i j k l->
 RR (sOp (.load 23 (.const h)) 23) l fun g l=>
 b (ay a 4) c d e f g h i j k l)/\
 (∀ a:Nat->Bool,a 5=false->a 4=true->∀ c d e f g h i j k l,b a c d e f g h i j k l->
 RR (aH (.func (.func 199) #[] #[]) [g]) l fun f l=>
 b (ay a 5) c d e f g h i j k l)/\
 (∀ a:Nat->Bool,a 6=false->a 2=true->a 5=true->∀ c d e f g h i j k l,b a c d e f g h i j k l->
 RR (aq .add 9 false false i f) l fun e l=>
 b (ay a 6) c d e f g h i j k l)/\
 (∀ a:Nat->Bool,a 7=false->a 6=true->∀ c d e f g h i j k l,b a c d e f g h i j k l->
 RR (aq .add 9 false true e (.string ⟨#[41]⟩)) l fun d l=>
 b (ay a 7) c d e f g h i j k l)/\
 (∀ a:Nat->Bool,a 8=false->a 7=true->a 5=true->a 0=true->a 1=true->a 2=true->a 3=true->a 4=true->a 5=true->a 6=true->a 7=true->∀ c d e f g h i j k l,b a c d e f g h i j k l->
 b (ay a 8) d d e f g h i j k l)/\
 True)/\
 ∀ a:Nat->Bool,a 8=true->a 7=true->a 6=true->a 5=true->a 4=true->a 3=true->a 2=true->a 1=true->a 0=true->∀ c d e f g h i j k l,b a c d e f g h i j k l->
 R (.returned c) l)) (
 RR (sOp (.load 25 (.const a)) 25) d fun a b=>
 RR (aH (.func (.func 156) #[] #[]) [a]) b fun a b=>
 R (.returned a) b))))
theorem Aq {p0:Value} {w:World} {R:Ending->World->Prop} (h:wR p0 w R):Calls Tryz.prog 189 #[p0] w R:=
  aK (.seq none .leaf (.seq none (.one (.seq none .leaf (.two .leaf (.seq none .leaf (.two (.seq none .leaf (.seq none .leaf (.seq (some [4]) .leaf .leaf))) (.seq (some [37]) .leaf .leaf)))))) .leaf)) [p0] be Tryz.func189 (by kernel_rfl) (by kernel_rfl) h


/- loop.example/prologserver/spec.l18Dec : function 190 -/
def wl (p0:Value) (w:World) (R:Ending->World->Prop):Prop:=
 RR (aq .lss 3 false true p0 (.int .i64 (-9223372036854775807))) w fun a b=>
 CondV a (
 R (.returned (.string ⟨#[45,57,50,50,51,51,55,50,48,51,54,56,53,52,55,55,53,56,48,56]⟩)) b) (
 RR (aq .lss 3 false true p0 (.int .i64 0)) b fun a b=>
 CondV a (
 RR (sOp (.unOp .neg 3 (.const p0)) 3) b fun a b=>
 RR (aH (.func (.func 190) #[] #[]) [a]) b fun a b=>
 RR (aq .add 9 true false (.string ⟨#[45]⟩) a) b fun a b=>
 R (.returned a) b) (
 (∃ (a:Value->Value->World->Prop) (c:Value->Value->World->Nat),a p0 (.string ⟨#[]⟩) b/\
 ∀ b _ _ d _ _ _ _ _ _ _ _ _ _:Value,∀ e:World,a b d e->
 RR (aq .gtr 3 false true b (.int .i64 9)) e fun f g=>
 CondV f (
 RR (aq .rem 3 false true b (.int .i64 10)) g fun f g=>
 RR (aq .add 3 true false (.int .i64 48) f) g fun f g=>
 RR (sOp (.convert 3 5 (.const f)) 5) g fun f g=>
 RR (aS 22 1 [(0,f)]) g fun f g=>
 RR (sOp (.convert 22 9 (.const f)) 9) g fun f g=>
 RR (aq .add 9 false false f d) g fun f g=>
 RR (aq .quo 3 false true b (.int .i64 10)) g fun g h=>
 a g f h/\c g f h<c b d e) (
 RR (aq .add 3 true false (.int .i64 48) b) g fun a b=>
 RR (sOp (.convert 3 5 (.const a)) 5) b fun a b=>
 RR (aS 22 1 [(0,a)]) b fun a b=>
 RR (sOp (.convert 22 9 (.const a)) 9) b fun a b=>
 RR (aq .add 9 false false a d) b fun a b=>
 R (.returned a) b))))
theorem Ax {p0:Value} {w:World} {R:Ending->World->Prop} (h:wl p0 w R):Calls Tryz.prog 190 #[p0] w R:=
  aK (.seq none .leaf (.seq none .leaf (.seq none .leaf (.seq none .leaf (.seq none (.one (.loop [0,3] .leaf)) .leaf))))) [p0] be Tryz.func190 (by kernel_rfl) (by kernel_rfl) h


/- loop.example/prologserver/spec.l1Nil : function 191 -/
def zT (p0:Value) (w:World) (R:Ending->World->Prop):Prop:=
 RR (sOp (.box 25 (.const p0)) 0) w fun a b=>
 RR (sOp (.fieldAddr 25 (.const a) 0) 0) b fun b c=>
 RR (sOp (.load 3 (.const b)) 3) c fun b c=>
 RR (aq .eql 3 false true b (.int .i64 3)) c fun b c=>
 ((fun d:VW=>aj b true (
 RR (sOp (.fieldAddr 25 (.const a) 2) 0) c fun a c=>
 RR (sOp (.load 9 (.const a)) 9) c fun a c=>
 RR (aq .eql 9 false true a (.string ⟨#[91,93]⟩)) c fun a c=>
 RR (sOp (.pick (.const b) (.const a) (.const (.bool false))) 4) c fun a b=>d a b) (
 RR (sOp (.pick (.const b) (.const undef) (.const (.bool false))) 4) c fun a b=>d a b)) fun b c=>
 aj b true (
 RR (sOp (.fieldAddr 25 (.const a) 3) 0) c fun a c=>
 RR (sOp (.load 23 (.const a)) 23) c fun a c=>
 RR (ar .len #[23] 3 [false] [a]) c fun a c=>
 RR (aq .eql 3 false true a (.int .i64 0)) c fun a c=>
 RR (sOp (.pick (.const b) (.const a) (.const (.bool false))) 4) c fun a b=>
 R (.returned a) b) (
 RR (sOp (.pick (.const b) (.const undef) (.const (.bool false))) 4) c fun a b=>
 R (.returned a) b))
theorem Be {p0:Value} {w:World} {R:Ending->World->Prop} (h:zT p0 w R):Calls Tryz.prog 191 #[p0] w R:=
  aK .leaf [p0] be Tryz.func191 (by kernel_rfl) (by kernel_rfl) h


/- loop.example/prologserver/spec.l1Has : function 192 -/
def zx (p0 p1:Value) (w:World) (R:Ending->World->Prop):Prop:=
 (∃ (a:Value->World->Prop) (b:Value->World->Nat),a (.int .i64 0) w/\
 ∀ c _ _ _ _ _ _ _ _ _ _ _ _ _:Value,∀ d:World,a c d->
 RR (ar .len #[67] 3 [false] [p0]) d fun e f=>
 RR (aq .lss 3 false false c e) f fun e f=>
 CondV e (
 RR (sOp (.indexAddr 67 (.const p0) (.const c)) 0) f fun e f=>
 RR (sOp (.load 9 (.const e)) 9) f fun e f=>
 RR (aq .eql 9 false false e p1) f fun e f=>
 CondV e (
 R (.returned (.bool true)) f) (
 RR (aq .add 3 false true c (.int .i64 1)) f fun e f=>
 a e f/\b e f<b c d)) (
 R (.returned (.bool false)) f))
theorem BC {p0 p1:Value} {w:World} {R:Ending->World->Prop} (h:zx p0 p1 w R):Calls Tryz.prog 192 #[p0,p1] w R:=
  aK (.seq none .leaf (.seq none (.seq none .leaf (.one (.loop [5] .leaf))) .leaf)) [p0,p1] be Tryz.func192 (by kernel_rfl) (by kernel_rfl) h


/- loop.example/prologserver/spec.l2List : function 194 -/
def wD (p0:Value) (w:World) (R:Ending->World->Prop):Prop:=
 RR (sOp (.box 25 (.const p0)) 0) w fun a b=>
 RR (aS 23 0 []) b fun b c=>
 (∃ (d:Value->World->Prop) (e:Value->World->Nat),d b c/\
 ∀ _ _ _ _ b _ _ _ _ _ _ _ _ _:Value,∀ c:World,d b c->
 RR (sOp (.load 25 (.const a)) 25) c fun f g=>
 RR (aH (.func (.func 179) #[] #[]) [f]) g fun f g=>
 CondV f (
 RR (sOp (.fieldAddr 25 (.const a) 3) 0) g fun f g=>
 RR (sOp (.load 23 (.const f)) 23) g fun f g=>
 RR (sOp (.indexAddr 23 (.const f) (.const (.int .i64 0))) 0) g fun f g=>
 RR (sOp (.load 25 (.const f)) 25) g fun f g=>
 RR (aS 23 1 [(0,f)]) g fun f g=>
 RR (ar .append #[23,23] 23 [false,false] [b,f]) g fun f g=>
 RR (sOp (.fieldAddr 25 (.const a) 3) 0) g fun g h=>
 RR (sOp (.load 23 (.const g)) 23) h fun g h=>
 RR (sOp (.indexAddr 23 (.const g) (.const (.int .i64 1))) 0) h fun g h=>
 RR (sOp (.load 25 (.const g)) 25) h fun g h=>
 RR (sOp (.store 25 (.const a) (.const g)) 0) h fun _ a=>
 d f a/\e f a<e b c) (
 RR (sOp (.load 25 (.const a)) 25) g fun c d=>
 RR (aH (.func (.func 191) #[] #[]) [c]) d fun c d=>
 CondV c (
 RR (aH (.func (.func 199) #[] #[]) [b]) d fun a b=>
 RR (aq .add 9 true false (.string ⟨#[91]⟩) a) b fun a b=>
 RR (aq .add 9 false true a (.string ⟨#[93]⟩)) b fun a b=>
 R (.returned a) b) (
 (∃ c:(Nat->Bool)->Value->Value->Value->Value->Value->Value->Value->Value->Value->World->Prop,c (fun _=>false) (.string ⟨#[]⟩) undef undef undef undef undef undef undef undef { d with drawn:=d.drawn+1 }/\(
 (∀ a:Nat->Bool,a 0=false->∀ d e f g h i j k l m,c a d e f g h i j k l m->
 c (ay a 0) d e f g h i j k b m)/\
 (∀ a:Nat->Bool,a 1=false->a 0=true->∀ b d e f g h i j k l,c a b d e f g h i j k l->
 RR (aH (.func (.func 199) #[] #[]) [k]) l fun j l=>
 c (ay a 1) b d e f g h i j k l)/\
 (∀ a:Nat->Bool,a 2=false->a 1=true->∀ b d e f g h i j k l,c a b d e f g h i j k l->
 RR (aq .add 9 true false (.string ⟨#[91]⟩) j) l fun i l=>
 c (ay a 2) b d e f g h i j k l)/\
 (∀ a:Nat->Bool,a 3=false->a 2=true->∀ b d e f g h i j k l,c a b d e f g h i j k l->
 RR (aq .add 9 false true i (.string ⟨#[124]⟩)) l fun h l=>
 c (ay a 3) b d e f g h i j k l)/\
 (∀ b:Nat->Bool,b 4=false->∀ d e f g h i j k l m,c b d e f g h i j k l m->
 RR (sOp (.load 25 (.const a)) 25) m fun a h=>
 c (ay b 4) d e f g a i j k l h)/\
 (∀ a:Nat->Bool,a 5=false->a 4=true->a 1=true->∀ b d e f g h i j k l,c a b d e f g h i j k l->
 RR (aH (.func (.func 189) #[] #[]) [g]) l fun f l=>
 c (ay a 5) b d e f g h i j k l)/\
 (∀ a:Nat->Bool,a 6=false->a 3=true->a 5=true->∀ b d e f g h i j k l,c a b d e f g h i j k l->
 RR (aq .add 9 false false h f) l fun e l=>
 c (ay a 6) b d e f g h i j k l)/\
 (∀ a:Nat->Bool,a 7=false->a 6=true->∀ b d e f g h i j k l,c a b d e f g h i j k l->
 RR (aq .add 9 false true e (.string ⟨#[93]⟩)) l fun d l=>
 c (ay a 7) b d e f g h i j k l)/\
 (∀ a:Nat->Bool,a 8=false->a 7=true->a 5=true->a 0=true->a 1=true->a 2=true->a 3=true->a 4=true->a 5=true->a 6=true->a 7=true->∀ b d e f g h i j k l,c a b d e f g h i j k l->
 c (ay a 8) d d e f g h i j k l)/\
 True)/\
 ∀ a:Nat->Bool,a 8=true->a 7=true->a 6=true->a 5=true->a 4=true->a 3=true->a 2=true->a 1=true->a 0=true->∀ b d e f g h i j k l,c a b d e f g h i j k l->
 R (.returned b) l))))
theorem yK {p0:Value} {w:World} {R:Ending->World->Prop} (h:wD p0 w R):Calls Tryz.prog 194 #[p0] w R:=
  aK (.seq none .leaf (.seq none .leaf (.seq none (.one (.loop [3] .leaf)) .leaf))) [p0] be Tryz.func194 (by kernel_rfl) (by kernel_rfl) h


/- loop.example/prologserver/spec.l2Infix : function 195 -/
def rT (p0:Value) (w:World) (R:Ending->World->Prop):Prop:=
 RR (sOp (.box 25 (.const p0)) 0) w fun a b=>
 RR (sOp (.fieldAddr 25 (.const a) 0) 0) b fun b c=>
 RR (sOp (.load 3 (.const b)) 3) c fun b c=>
 RR (aq .eql 3 false true b (.int .i64 3)) c fun b c=>
 ((fun d:VW=>aj b true (
 RR (sOp (.fieldAddr 25 (.const a) 3) 0) c fun a c=>
 RR (sOp (.load 23 (.const a)) 23) c fun a c=>
 RR (ar .len #[23] 3 [false] [a]) c fun a c=>
 RR (aq .eql 3 false true a (.int .i64 2)) c fun a c=>
 RR (sOp (.pick (.const b) (.const a) (.const (.bool false))) 4) c fun a b=>d a b) (
 RR (sOp (.pick (.const b) (.const undef) (.const (.bool false))) 4) c fun a b=>d a b)) fun b c=>
 aj b true (
 RR (sOp (.fieldAddr 25 (.const a) 2) 0) c fun a c=>
 RR (sOp (.load 9 (.const a)) 9) c fun a c=>
 RR (aH (.func (.func 164) #[] #[]) [a]) c fun a c=>
 RR (aq .gtr 3 false true a (.int .i64 0)) c fun a c=>
 RR (sOp (.pick (.const b) (.const a) (.const (.bool false))) 4) c fun a b=>
 R (.returned a) b) (
 RR (sOp (.pick (.const b) (.const undef) (.const (.bool false))) 4) c fun a b=>
 R (.returned a) b))
theorem xX {p0:Value} {w:World} {R:Ending->World->Prop} (h:rT p0 w R):Calls Tryz.prog 195 #[p0] w R:=
  aK .leaf [p0] be Tryz.func195 (by kernel_rfl) (by kernel_rfl) h


/- loop.example/prologserver/spec.l2Left : function 196 -/
def wG (p0 p1:Value) (w:World) (R:Ending->World->Prop):Prop:=
 RR (sOp (.box 25 (.const p0)) 0) w fun a b=>
 RR (sOp (.load 25 (.const a)) 25) b fun b c=>
 RR (aH (.func (.func 201) #[] #[]) [b]) c fun b c=>
 CondV b (
 RR (sOp (.load 25 (.const a)) 25) c fun a b=>
 RR (aH (.func (.func 189) #[] #[]) [a]) b fun a b=>
 RR (aq .add 9 true false (.string ⟨#[40]⟩) a) b fun a b=>
 RR (aq .add 9 false true a (.string ⟨#[41]⟩)) b fun a b=>
 R (.returned a) b) (
 RR (sOp (.load 25 (.const a)) 25) c fun a b=>
 RR (aH (.func (.func 202) #[] #[]) [a,p1]) b fun a b=>
 R (.returned a) b)
theorem zU {p0 p1:Value} {w:World} {R:Ending->World->Prop} (h:wG p0 p1 w R):Calls Tryz.prog 196 #[p0,p1] w R:=
  aK .leaf [p0,p1] be Tryz.func196 (by kernel_rfl) (by kernel_rfl) h


/- loop.example/prologserver/spec.l2Spaced : function 197 -/
def ql (p0:Value) (w:World) (R:Ending->World->Prop):Prop:=
 (∃ a:Value->World->Prop,(
 RR (aq .eql 9 false true p0 (.string ⟨#[105,115]⟩)) w fun b c=>
 aj b false (
 RR (aq .eql 9 false true p0 (.string ⟨#[109,111,100]⟩)) c fun c d=>
 RR (sOp (.pick (.const b) (.const (.bool true)) (.const c)) 4) d fun b c=>
 a b c) (
 RR (sOp (.pick (.const b) (.const (.bool true)) (.const undef)) 4) c fun b c=>
 a b c))/\
 ∀ b _ _ _ _ _:Value,∀ c:World,a b c->
 CondV b (
 RR (aq .add 9 true false (.string ⟨#[32]⟩) p0) c fun a b=>
 RR (aq .add 9 false true a (.string ⟨#[32]⟩)) b fun a b=>
 R (.returned a) b) (
 R (.returned p0) c))
theorem vp {p0:Value} {w:World} {R:Ending->World->Prop} (h:ql p0 w R):Calls Tryz.prog 197 #[p0] w R:=
  aK (.seq none .leaf (.seq none (.seq (some [8]) .leaf .leaf) .leaf)) [p0] be Tryz.func197 (by kernel_rfl) (by kernel_rfl) h


/- loop.example/prologserver/spec.l2Right : function 198 -/
def sR (p0 p1:Value) (w:World) (R:Ending->World->Prop):Prop:=
 RR (sOp (.box 25 (.const p0)) 0) w fun a b=>
 RR (sOp (.load 25 (.const a)) 25) b fun b c=>
 RR (aH (.func (.func 202) #[] #[]) [b,p1]) c fun b c=>
 (∃ d:Value->World->Prop,(
 RR (sOp (.load 25 (.const a)) 25) c fun a c=>
 RR (aH (.func (.func 201) #[] #[]) [a]) c fun a c=>
 aj a false (
 RR (aH (.func (.func 203) #[] #[]) [b]) c fun b c=>
 RR (sOp (.unOp .not 4 (.const b)) 4) c fun b c=>
 RR (sOp (.pick (.const a) (.const (.bool true)) (.const b)) 4) c fun a b=>
 d a b) (
 RR (sOp (.pick (.const a) (.const (.bool true)) (.const undef)) 4) c fun a b=>
 d a b))/\
 ∀ a _ _ _ _ _ _:Value,∀ c:World,d a c->
 CondV a (
 RR (aq .add 9 true false (.string ⟨#[40]⟩) b) c fun a b=>
 RR (aq .add 9 false true a (.string ⟨#[41]⟩)) b fun a b=>
 R (.returned a) b) (
 R (.returned b) c))
theorem ye {p0 p1:Value} {w:World} {R:Ending->World->Prop} (h:sR p0 p1 w R):Calls Tryz.prog 198 #[p0,p1] w R:=
  aK (.seq none .leaf (.seq none .leaf (.seq none (.seq (some [15]) .leaf .leaf) .leaf))) [p0,p1] be Tryz.func198 (by kernel_rfl) (by kernel_rfl) h


/- loop.example/prologserver/spec.l2Args : function 199 -/
def v7 (p0:Value) (w:World) (R:Ending->World->Prop):Prop:=
 (∃ (a:Value->Value->World->Prop) (b:Value->Value->World->Nat),a (.int .i64 0) (.string ⟨#[]⟩) w/\
 ∀ c _ _ _ _ _ _ _ _ _ d _ _ _ _ _ _ _ _:Value,∀ e:World,a c d e->
 RR (ar .len #[23] 3 [false] [p0]) e fun f g=>
 RR (aq .lss 3 false false c f) g fun f g=>
 CondV f (
 (∃ f:Value->World->Prop,(
 RR (aq .gtr 3 false true c (.int .i64 0)) g fun a b=>
 CondV a (
 RR (aq .add 9 false true d (.string ⟨#[44]⟩)) b fun a b=>
 f a b) (
 f d b))/\
 ∀ g _ _ _ _:Value,∀ h:World,f g h->
 RR (sOp (.indexAddr 23 (.const p0) (.const c)) 0) h fun f h=>
 RR (sOp (.load 25 (.const f)) 25) h fun f h=>
 RR (aH (.func (.func 189) #[] #[]) [f]) h fun f h=>
 RR (aq .add 9 false false g f) h fun f g=>
 RR (aq .add 3 false true c (.int .i64 1)) g fun g h=>
 a g f h/\b g f h<b c d e)) (
 R (.returned d) g))
theorem z1 {p0:Value} {w:World} {R:Ending->World->Prop} (h:v7 p0 w R):Calls Tryz.prog 199 #[p0] w R:=
  aK (.seq none .leaf (.seq none .leaf (.seq none (.seq none .leaf (.one (.loop [4,3] (.seq none .leaf (.seq none (.one (.seq (some [3]) .leaf .leaf)) .leaf))))) .leaf))) [p0] be Tryz.func199 (by kernel_rfl) (by kernel_rfl) h


/- loop.example/prologserver/spec.l2Sole : function 201 -/
def wJ (p0:Value) (w:World) (R:Ending->World->Prop):Prop:=
 RR (sOp (.box 25 (.const p0)) 0) w fun a b=>
 RR (sOp (.fieldAddr 25 (.const a) 0) 0) b fun b c=>
 RR (sOp (.load 3 (.const b)) 3) c fun b c=>
 RR (aq .eql 3 false true b (.int .i64 3)) c fun b c=>
 ((fun d:VW=>aj b true (
 RR (sOp (.fieldAddr 25 (.const a) 3) 0) c fun a c=>
 RR (sOp (.load 23 (.const a)) 23) c fun a c=>
 RR (ar .len #[23] 3 [false] [a]) c fun a c=>
 RR (aq .eql 3 false true a (.int .i64 0)) c fun a c=>
 RR (sOp (.pick (.const b) (.const a) (.const (.bool false))) 4) c fun a b=>d a b) (
 RR (sOp (.pick (.const b) (.const undef) (.const (.bool false))) 4) c fun a b=>d a b)) fun b c=>
 aj b true (
 RR (sOp (.fieldAddr 25 (.const a) 2) 0) c fun a c=>
 RR (sOp (.load 9 (.const a)) 9) c fun a c=>
 RR (aH (.func (.func 164) #[] #[]) [a]) c fun a c=>
 RR (aq .gtr 3 false true a (.int .i64 0)) c fun a c=>
 RR (sOp (.pick (.const b) (.const a) (.const (.bool false))) 4) c fun a b=>
 R (.returned a) b) (
 RR (sOp (.pick (.const b) (.const undef) (.const (.bool false))) 4) c fun a b=>
 R (.returned a) b))
theorem zL {p0:Value} {w:World} {R:Ending->World->Prop} (h:wJ p0 w R):Calls Tryz.prog 201 #[p0] w R:=
  aK .leaf [p0] be Tryz.func201 (by kernel_rfl) (by kernel_rfl) h


/- loop.example/prologserver/spec.l2Bracket : function 202 -/
def oJ (p0 p1:Value) (w:World) (R:Ending->World->Prop):Prop:=
 RR (sOp (.box 25 (.const p0)) 0) w fun a b=>
 (∃ c:Value->World->Prop,(
 RR (sOp (.load 25 (.const a)) 25) b fun b d=>
 RR (aH (.func (.func 195) #[] #[]) [b]) d fun b d=>
 aj b true (
 RR (sOp (.fieldAddr 25 (.const a) 2) 0) d fun a d=>
 RR (sOp (.load 9 (.const a)) 9) d fun a d=>
 RR (aH (.func (.func 164) #[] #[]) [a]) d fun a d=>
 RR (aq .gtr 3 false false a p1) d fun a d=>
 RR (sOp (.pick (.const b) (.const a) (.const (.bool false))) 4) d fun a b=>
 c a b) (
 RR (sOp (.pick (.const b) (.const undef) (.const (.bool false))) 4) d fun a b=>
 c a b))/\
 ∀ b _ _ _ _ _ _ _ _:Value,∀ d:World,c b d->
 CondV b (
 RR (sOp (.load 25 (.const a)) 25) d fun a b=>
 RR (aH (.func (.func 189) #[] #[]) [a]) b fun a b=>
 RR (aq .add 9 true false (.string ⟨#[40]⟩) a) b fun a b=>
 RR (aq .add 9 false true a (.string ⟨#[41]⟩)) b fun a b=>
 R (.returned a) b) (
 RR (sOp (.load 25 (.const a)) 25) d fun a b=>
 RR (aH (.func (.func 189) #[] #[]) [a]) b fun a b=>
 R (.returned a) b))
theorem ud {p0 p1:Value} {w:World} {R:Ending->World->Prop} (h:oJ p0 p1 w R):Calls Tryz.prog 202 #[p0,p1] w R:=
  aK (.seq none .leaf (.seq none (.seq (some [13]) .leaf .leaf) .leaf)) [p0,p1] be Tryz.func202 (by kernel_rfl) (by kernel_rfl) h


/- loop.example/prologserver/spec.l2Plain : function 203 -/
def sk (p0:Value) (w:World) (R:Ending->World->Prop):Prop:=
 RR (aH (.func (.func 175) #[] #[]) [p0,(.int .i64 0)]) w fun a b=>
 ((fun c:VW=>aj a false (
 RR (aH (.func (.func 151) #[] #[]) [p0,(.int .i64 0)]) b fun b d=>
 RR (sOp (.pick (.const a) (.const (.bool true)) (.const b)) 4) d fun a b=>c a b) (
 RR (sOp (.pick (.const a) (.const (.bool true)) (.const undef)) 4) b fun a b=>c a b)) fun a b=>
 aj a false (
 RR (sOp (.index 9 (.const p0) (.const (.int .i64 0))) 5) b fun b c=>
 RR (aq .geq 5 false true b (.int .u8 65)) c fun b c=>
 aj b true (
 RR (sOp (.index 9 (.const p0) (.const (.int .i64 0))) 5) c fun c d=>
 RR (aq .leq 5 false true c (.int .u8 90)) d fun c d=>
 ((fun e:VW=>aj a false (
 RR (sOp (.pick (.const b) (.const c) (.const (.bool false))) 4) d fun b c=>
 RR (sOp (.pick (.const a) (.const (.bool true)) (.const b)) 4) c fun a b=>e a b) (
 RR (sOp (.pick (.const a) (.const (.bool true)) (.const undef)) 4) d fun a b=>e a b)) fun a b=>
 ((fun c:VW=>aj a false (
 RR (sOp (.index 9 (.const p0) (.const (.int .i64 0))) 5) b fun b d=>
 RR (aq .eql 5 false true b (.int .u8 91)) d fun b d=>
 RR (sOp (.pick (.const a) (.const (.bool true)) (.const b)) 4) d fun a b=>c a b) (
 RR (sOp (.pick (.const a) (.const (.bool true)) (.const undef)) 4) b fun a b=>c a b)) fun a b=>
 aj a false (
 RR (sOp (.index 9 (.const p0) (.const (.int .i64 0))) 5) b fun b c=>
 RR (aq .eql 5 false true b (.int .u8 40)) c fun b c=>
 RR (sOp (.pick (.const a) (.const (.bool true)) (.const b)) 4) c fun a b=>
 R (.returned a) b) (
 RR (sOp (.pick (.const a) (.const (.bool true)) (.const undef)) 4) b fun a b=>
 R (.returned a) b)))) (
 ((fun d:VW=>aj a false (
 RR (sOp (.pick (.const b) (.const undef) (.const (.bool false))) 4) c fun b c=>
 RR (sOp (.pick (.const a) (.const (.bool true)) (.const b)) 4) c fun a b=>d a b) (
 RR (sOp (.pick (.const a) (.const (.bool true)) (.const undef)) 4) c fun a b=>d a b)) fun a b=>
 ((fun c:VW=>aj a false (
 RR (sOp (.index 9 (.const p0) (.const (.int .i64 0))) 5) b fun b d=>
 RR (aq .eql 5 false true b (.int .u8 91)) d fun b d=>
 RR (sOp (.pick (.const a) (.const (.bool true)) (.const b)) 4) d fun a b=>c a b) (
 RR (sOp (.pick (.const a) (.const (.bool true)) (.const undef)) 4) b fun a b=>c a b)) fun a b=>
 aj a false (
 RR (sOp (.index 9 (.const p0) (.const (.int .i64 0))) 5) b fun b c=>
 RR (aq .eql 5 false true b (.int .u8 40)) c fun b c=>
 RR (sOp (.pick (.const a) (.const (.bool true)) (.const b)) 4) c fun a b=>
 R (.returned a) b) (
 RR (sOp (.pick (.const a) (.const (.bool true)) (.const undef)) 4) b fun a b=>
 R (.returned a) b))))) (
 aj undef true (
 RR (sOp (.index 9 (.const p0) (.const (.int .i64 0))) 5) b fun b c=>
 RR (aq .leq 5 false true b (.int .u8 90)) c fun b c=>
 ((fun d:VW=>aj a false (
 RR (sOp (.pick (.const undef) (.const b) (.const (.bool false))) 4) c fun b c=>
 RR (sOp (.pick (.const a) (.const (.bool true)) (.const b)) 4) c fun a b=>d a b) (
 RR (sOp (.pick (.const a) (.const (.bool true)) (.const undef)) 4) c fun a b=>d a b)) fun a b=>
 ((fun c:VW=>aj a false (
 RR (sOp (.index 9 (.const p0) (.const (.int .i64 0))) 5) b fun b d=>
 RR (aq .eql 5 false true b (.int .u8 91)) d fun b d=>
 RR (sOp (.pick (.const a) (.const (.bool true)) (.const b)) 4) d fun a b=>c a b) (
 RR (sOp (.pick (.const a) (.const (.bool true)) (.const undef)) 4) b fun a b=>c a b)) fun a b=>
 aj a false (
 RR (sOp (.index 9 (.const p0) (.const (.int .i64 0))) 5) b fun b c=>
 RR (aq .eql 5 false true b (.int .u8 40)) c fun b c=>
 RR (sOp (.pick (.const a) (.const (.bool true)) (.const b)) 4) c fun a b=>
 R (.returned a) b) (
 RR (sOp (.pick (.const a) (.const (.bool true)) (.const undef)) 4) b fun a b=>
 R (.returned a) b)))) (
 ((fun c:VW=>aj a false (
 RR (sOp (.pick (.const undef) (.const undef) (.const (.bool false))) 4) b fun b d=>
 RR (sOp (.pick (.const a) (.const (.bool true)) (.const b)) 4) d fun a b=>c a b) (
 RR (sOp (.pick (.const a) (.const (.bool true)) (.const undef)) 4) b fun a b=>c a b)) fun a b=>
 ((fun c:VW=>aj a false (
 RR (sOp (.index 9 (.const p0) (.const (.int .i64 0))) 5) b fun b d=>
 RR (aq .eql 5 false true b (.int .u8 91)) d fun b d=>
 RR (sOp (.pick (.const a) (.const (.bool true)) (.const b)) 4) d fun a b=>c a b) (
 RR (sOp (.pick (.const a) (.const (.bool true)) (.const undef)) 4) b fun a b=>c a b)) fun a b=>
 aj a false (
 RR (sOp (.index 9 (.const p0) (.const (.int .i64 0))) 5) b fun b c=>
 RR (aq .eql 5 false true b (.int .u8 40)) c fun b c=>
 RR (sOp (.pick (.const a) (.const (.bool true)) (.const b)) 4) c fun a b=>
 R (.returned a) b) (
 RR (sOp (.pick (.const a) (.const (.bool true)) (.const undef)) 4) b fun a b=>
 R (.returned a) b))))))
theorem xJ {p0:Value} {w:World} {R:Ending->World->Prop} (h:sk p0 w R):Calls Tryz.prog 203 #[p0] w R:=
  aK .leaf [p0] be Tryz.func203 (by kernel_rfl) (by kernel_rfl) h

end Go.Proofs.YtemmhhdnlbmicaaGreat
