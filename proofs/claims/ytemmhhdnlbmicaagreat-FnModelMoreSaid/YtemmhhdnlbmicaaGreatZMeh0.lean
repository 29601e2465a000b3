/- Made by program: the functions in a shallow form; each form gives Calls. -/
import Derived.Test.YtemmhhdnlbmicaaGreatZMeS
import Derived.Test.YtemmhhdnlbmicaaGreatProg
import Derived.KernelRfl
set_option maxRecDepth 100000
namespace Go.Proofs.YtemmhhdnlbmicaaGreat
open Go
theorem bf:Tryz.prog.follows .mixedOrders=true:=by kernel_rfl
abbrev RR:=Run Tryz.prog
abbrev VW:=Value->World->Prop
/- loop.example/prologserver/laws.FnModelMore : function 5 -/
def kZ (p0 p1:Value) (w:World) (R:Ending->World->Prop):Prop:=
 (∃ a:Value->World->Prop,(
 RR (aq .len #[22] 3 [false] [p0]) w fun b c=>
 RR (ar .gtr 3 false true b (.int .i64 1048576)) c fun b c=>
 ah b false (
 RR (aq .len #[22] 3 [false] [p1]) c fun c d=>
 RR (ar .gtr 3 false true c (.int .i64 1048576)) d fun c d=>
 RR (sOp (.pick (.const b) (.const (.bool true)) (.const c)) 4) d fun b c=>
 a b c) (
 RR (sOp (.pick (.const b) (.const (.bool true)) (.const undef)) 4) c fun b c=>
 a b c))/\
 ∀ b _ _ _ _ _ _ _:Value,∀ c:World,a b c->
 CondV b (
 R (.returned (.bool true)) c) (
 RR (aJ (.func (.func 21) #[] #[]) [p0]) c fun a b=>
 RR (aJ (.func (.func 17) #[] #[]) [a]) b fun b c=>
 RR (sOp (.extract (.const b) 0) 23) c fun c d=>
 RR (sOp (.extract (.const b) 1) 4) d fun b d=>
 RR (aJ (.func (.func 22) #[] #[]) [a]) d fun d e=>
 RR (sOp (.extract (.const d) 0) 23) e fun e f=>
 RR (sOp (.extract (.const d) 1) 4) f fun d f=>
 (∃ g:Value->World->Prop,(
 RR (ar .neq 4 false false b d) f fun a d=>
 ((fun b:VW=>ah a false (
 RR (aJ (.func (.func 11) #[] #[]) [c,e]) d fun c d=>
 RR (sOp (.unOp .not 4 (.const c)) 4) d fun c d=>
 RR (sOp (.pick (.const a) (.const (.bool true)) (.const c)) 4) d fun a c=>b a c) (
 RR (sOp (.pick (.const a) (.const (.bool true)) (.const undef)) 4) d fun a c=>b a c)) fun a d=>
 ((fun c:VW=>ah a false (
 RR (sOp (.unOp .not 4 (.const b)) 4) d fun b d=>
 RR (sOp (.pick (.const a) (.const (.bool true)) (.const b)) 4) d fun a b=>c a b) (
 RR (sOp (.pick (.const a) (.const (.bool true)) (.const undef)) 4) d fun a b=>c a b)) fun a b=>
 ah a false (
 RR (aq .len #[23] 3 [false] [c]) b fun b c=>
 RR (ar .eql 3 false true b (.int .i64 0)) c fun b c=>
 RR (sOp (.pick (.const a) (.const (.bool true)) (.const b)) 4) c fun a b=>
 g a b) (
 RR (sOp (.pick (.const a) (.const (.bool true)) (.const undef)) 4) b fun a b=>
 g a b))))/\
 ∀ f _ _ _ _ _ _ _ _ _ _ _ _ _ _ _ _ _:Value,∀ h:World,g f h->
 CondV f (
 RR (ar .eql 4 false false b d) h fun a b=>
 ah a true (
 RR (aJ (.func (.func 11) #[] #[]) [c,e]) b fun b c=>
 RR (sOp (.pick (.const a) (.const b) (.const (.bool false))) 4) c fun a b=>
 R (.returned a) b) (
 RR (sOp (.pick (.const a) (.const undef) (.const (.bool false))) 4) b fun a b=>
 R (.returned a) b)) (
 RR (aq .len #[22] 3 [false] [p1]) h fun b d=>
 RR (aq .len #[23] 3 [false] [c]) d fun d e=>
 RR (ar .rem 3 false false b d) e fun b d=>
 RR (sOp (.indexAddr 23 (.const c) (.const b)) 0) d fun b d=>
 RR (sOp (.load 25 (.const b)) 25) d fun b d=>
 RR (sOp (.alloc 25) 0) d fun d e=>
 RR (sOp (.store 25 (.const d) (.const b)) 0) e fun _ b=>
 (∃ e:(Nat->Bool)->Value->Value->Value->Value->Value->Value->Value->Value->World->Prop,e (fun _=>false) undef undef undef undef undef undef undef undef { b with drawn:=b.drawn+1 }/\(
 (∀ a:Nat->Bool,a 0=false->∀ b c d f g h i j k,e a b c d f g h i j k->
 RR (aS 32 0 []) k fun j k=>
 e (aw a 0) b c d f g h i j k)/\
 (∀ b:Nat->Bool,b 1=false->∀ c d f g h i j k l,e b c d f g h i j k l->
 e (aw b 1) c d f g h i a k l)/\
 (∀ a:Nat->Bool,a 2=false->a 0=true->a 1=true->∀ b c d f g h i j k,e a b c d f g h i j k->
 RR (aq .append #[32,32] 32 [false,false] [j,i]) k fun h k=>
 e (aw a 2) b c d f g h i j k)/\
 (∀ a:Nat->Bool,a 3=false->∀ b c f g h i j k l,e a b c f g h i j k l->
 RR (sOp (.load 25 (.const d)) 25) l fun d h=>
 e (aw a 3) b c f g d i j k h)/\
 (∀ a:Nat->Bool,a 4=false->a 3=true->∀ b c d f g h i j k,e a b c d f g h i j k->
 RR (dD 39 [(0,g)]) k fun f k=>
 e (aw a 4) b c d f g h i j k)/\
 (∀ a:Nat->Bool,a 5=false->a 4=true->∀ b c d f g h i j k,e a b c d f g h i j k->
 RR (aS 32 1 [(0,f)]) k fun d k=>
 e (aw a 5) b c d f g h i j k)/\
 (∀ a:Nat->Bool,a 6=false->a 2=true->a 5=true->a 2=true->∀ b c d f g h i j k,e a b c d f g h i j k->
 RR (aq .append #[32,32] 32 [false,false] [h,d]) k fun c k=>
 e (aw a 6) b c d f g h i j k)/\
 (∀ a:Nat->Bool,a 7=false->a 6=true->a 6=true->a 0=true->a 1=true->a 2=true->a 3=true->a 4=true->a 5=true->a 6=true->∀ b c d f g h i j k,e a b c d f g h i j k->
 e (aw a 7) c c d f g h i j k)/\
 True)/\
 ∀ a:Nat->Bool,a 7=true->a 6=true->a 5=true->a 4=true->a 3=true->a 2=true->a 1=true->a 0=true->∀ b d f g h i j k l,e a b d f g h i j k l->
 RR (aJ (.func (.func 17) #[] #[]) [b]) l fun a d=>
 RR (sOp (.extract (.const a) 0) 23) d fun d e=>
 RR (sOp (.extract (.const a) 1) 4) e fun a e=>
 RR (aJ (.func (.func 23) #[] #[]) [b]) e fun b e=>
 RR (sOp (.unOp .not 4 (.const b)) 4) e fun b e=>
 ah b false (
 ah a true (
 RR (aJ (.func (.func 11) #[] #[]) [d,c]) e fun c d=>
 ah b false (
 RR (sOp (.pick (.const a) (.const c) (.const (.bool false))) 4) d fun a c=>
 RR (sOp (.pick (.const b) (.const (.bool true)) (.const a)) 4) c fun a b=>
 R (.returned a) b) (
 RR (sOp (.pick (.const b) (.const (.bool true)) (.const undef)) 4) d fun a b=>
 R (.returned a) b)) (
 ah b false (
 RR (sOp (.pick (.const a) (.const undef) (.const (.bool false))) 4) e fun a c=>
 RR (sOp (.pick (.const b) (.const (.bool true)) (.const a)) 4) c fun a b=>
 R (.returned a) b) (
 RR (sOp (.pick (.const b) (.const (.bool true)) (.const undef)) 4) e fun a b=>
 R (.returned a) b))) (
 ah undef true (
 RR (aJ (.func (.func 11) #[] #[]) [d,c]) e fun a c=>
 ah b false (
 RR (sOp (.pick (.const undef) (.const a) (.const (.bool false))) 4) c fun a c=>
 RR (sOp (.pick (.const b) (.const (.bool true)) (.const a)) 4) c fun a b=>
 R (.returned a) b) (
 RR (sOp (.pick (.const b) (.const (.bool true)) (.const undef)) 4) c fun a b=>
 R (.returned a) b)) (
 ah b false (
 RR (sOp (.pick (.const undef) (.const undef) (.const (.bool false))) 4) e fun a c=>
 RR (sOp (.pick (.const b) (.const (.bool true)) (.const a)) 4) c fun a b=>
 R (.returned a) b) (
 RR (sOp (.pick (.const b) (.const (.bool true)) (.const undef)) 4) e fun a b=>
 R (.returned a) b))))))))
theorem pa {p0 p1:Value} {w:World} {R:Ending->World->Prop} (h:kZ p0 p1 w R):Calls Tryz.prog 5 #[p0,p1] w R:=
  aL (.seq none .leaf (.seq none (.seq (some [21]) .leaf .leaf) (.seq none .leaf (.seq none .leaf (.seq none .leaf (.seq none (.seq (some [51]) .leaf .leaf) .leaf)))))) [p0,p1] bf Tryz.func5 (by kernel_rfl) (by kernel_rfl) h


/- loop.example/prologserver/laws.pgTerms : function 11 -/
def tl (p0 p1:Value) (w:World) (R:Ending->World->Prop):Prop:=
 RR (aq .len #[23] 3 [false] [p0]) w fun a b=>
 RR (aq .len #[23] 3 [false] [p1]) b fun b c=>
 RR (ar .neq 3 false false a b) c fun a b=>
 CondV a (
 R (.returned (.bool false)) b) (
 (∃ (a:Value->World->Prop) (c:Value->World->Nat),a (.int .i64 0) b/\
 ∀ b _ _ _ d e f g h i j k l m _ _ _ _:Value,∀ n:World,a b n->
 RR (aq .len #[23] 3 [false] [p0]) n fun o p=>
 RR (ar .lss 3 false false b o) p fun o p=>
 CondV o (
 (∃ o:(Nat->Bool)->Value->Value->Value->Value->Value->Value->Value->Value->Value->Value->World->Prop,o (fun _=>false) d e f g h i j k l m { p with drawn:=p.drawn+1 }/\(
 (∀ a:Nat->Bool,a 0=false->∀ b c d e f g h i j k l,o a b c d e f g h i j k l->
 o (aw a 0) b c d e f g h i j p0 l)/\
 (∀ a:Nat->Bool,a 1=false->∀ c d e f g h i j k l m,o a c d e f g h i j k l m->
 o (aw a 1) c d e f g h i j b l m)/\
 (∀ a:Nat->Bool,a 2=false->a 0=true->a 1=true->∀ b c d e f g h i j k l,o a b c d e f g h i j k l->
 RR (sOp (.indexAddr 23 (.const k) (.const j)) 0) l fun i l=>
 o (aw a 2) b c d e f g h i j k l)/\
 (∀ a:Nat->Bool,a 3=false->a 2=true->∀ b c d e f g h i j k l,o a b c d e f g h i j k l->
 RR (sOp (.load 25 (.const i)) 25) l fun h l=>
 o (aw a 3) b c d e f g h i j k l)/\
 (∀ a:Nat->Bool,a 4=false->∀ b c d e f g h i j k l,o a b c d e f g h i j k l->
 o (aw a 4) b c d e f p1 h i j k l)/\
 (∀ a:Nat->Bool,a 5=false->∀ c d e f g h i j k l m,o a c d e f g h i j k l m->
 o (aw a 5) c d e f b h i j k l m)/\
 (∀ a:Nat->Bool,a 6=false->a 4=true->a 5=true->∀ b c d e f g h i j k l,o a b c d e f g h i j k l->
 RR (sOp (.indexAddr 23 (.const g) (.const f)) 0) l fun e l=>
 o (aw a 6) b c d e f g h i j k l)/\
 (∀ a:Nat->Bool,a 7=false->a 6=true->∀ b c d e f g h i j k l,o a b c d e f g h i j k l->
 RR (sOp (.load 25 (.const e)) 25) l fun d l=>
 o (aw a 7) b c d e f g h i j k l)/\
 (∀ a:Nat->Bool,a 8=false->a 3=true->a 7=true->∀ b c d e f g h i j k l,o a b c d e f g h i j k l->
 RR (aJ (.func (.func 40) #[] #[]) [h,d]) l fun c l=>
 o (aw a 8) b c d e f g h i j k l)/\
 (∀ a:Nat->Bool,a 9=false->a 8=true->∀ b c d e f g h i j k l,o a b c d e f g h i j k l->
 RR (sOp (.unOp .not 4 (.const c)) 4) l fun b l=>
 o (aw a 9) b c d e f g h i j k l)/\
 True)/\
 ∀ d:Nat->Bool,d 9=true->d 8=true->d 7=true->d 6=true->d 5=true->d 4=true->d 3=true->d 2=true->d 1=true->d 0=true->∀ e f g h i j k l m p q,o d e f g h i j k l m p q->
 CondV e (
 R (.returned (.bool false)) q) (
 RR (ar .add 3 false true b (.int .i64 1)) q fun d e=>
 a d e/\c d e<c b n))) (
 R (.returned (.bool true)) p)))
theorem wJ {p0 p1:Value} {w:World} {R:Ending->World->Prop} (h:tl p0 p1 w R):Calls Tryz.prog 11 #[p0,p1] w R:=
  aL (.seq none .leaf (.seq none .leaf (.seq none (.seq none .leaf (.one (.loop [5] .leaf))) .leaf))) [p0,p1] bf Tryz.func11 (by kernel_rfl) (by kernel_rfl) h


/- loop.example/prologserver/impl.FlatProgram : function 15 -/
def lS (p0:Value) (w:World) (R:Ending->World->Prop):Prop:=
 RR (aJ (.func (.func 23) #[] #[]) [p0]) w fun a b=>
 ah a true (
 RR (aJ (.func (.func 46) #[] #[]) [p0,(.func (.func 47) #[] #[])]) b fun b c=>
 RR (sOp (.unOp .not 4 (.const b)) 4) c fun b c=>
 RR (sOp (.pick (.const a) (.const b) (.const (.bool false))) 4) c fun a b=>
 R (.returned a) b) (
 RR (sOp (.pick (.const a) (.const undef) (.const (.bool false))) 4) b fun a b=>
 R (.returned a) b)
theorem pj {p0:Value} {w:World} {R:Ending->World->Prop} (h:lS p0 w R):Calls Tryz.prog 15 #[p0] w R:=
  aL .leaf [p0] bf Tryz.func15 (by kernel_rfl) (by kernel_rfl) h


/- loop.example/prologserver/impl.LeastModel : function 17 -/
def mt (p0:Value) (w:World) (R:Ending->World->Prop):Prop:=
 RR (aJ (.func (.func 25) #[] #[]) [p0,(.int .i64 61)]) w fun a b=>
 RR (sOp (.extract (.const a) 0) 23) b fun b c=>
 RR (sOp (.extract (.const a) 1) 4) c fun a c=>
 R (.returned (.tuple #[b,a])) c
theorem qw {p0:Value} {w:World} {R:Ending->World->Prop} (h:mt p0 w R):Calls Tryz.prog 17 #[p0] w R:=
  aL .leaf [p0] bf Tryz.func17 (by kernel_rfl) (by kernel_rfl) h


/- loop.example/prologserver/spec.FlatProgram : function 18 -/
def ly (p0:Value) (w:World) (R:Ending->World->Prop):Prop:=
 (∃ (a:Value->World->Prop) (b:Value->World->Nat),a (.int .i64 0) w/\
 ∀ c _ _ _ _ _ _ _ _ _ _ _ _ _ _ _ _ _:Value,∀ d:World,a c d->
 (∃ e:Value->World->Prop,(
 RR (aq .len #[32] 3 [false] [p0]) d fun a b=>
 RR (ar .lss 3 false false c a) b fun a b=>
 ah a true (
 RR (aJ (.func (.func 50) #[] #[]) [p0]) b fun b c=>
 RR (sOp (.pick (.const a) (.const b) (.const (.bool false))) 4) c fun a b=>
 e a b) (
 RR (sOp (.pick (.const a) (.const undef) (.const (.bool false))) 4) b fun a b=>
 e a b))/\
 ∀ f _ _ _ _ _ _ _:Value,∀ g:World,e f g->
 CondV f (
 RR (sOp (.indexAddr 32 (.const p0) (.const c)) 0) g fun e f=>
 RR (sOp (.load 39 (.const e)) 39) f fun e f=>
 RR (aJ (.func (.func 51) #[] #[]) [e]) f fun e f=>
 RR (sOp (.unOp .not 4 (.const e)) 4) f fun e f=>
 CondV e (
 R (.returned (.bool false)) f) (
 RR (ar .add 3 false true c (.int .i64 1)) f fun e f=>
 a e f/\b e f<b c d)) (
 RR (aJ (.func (.func 50) #[] #[]) [p0]) g fun a b=>
 R (.returned a) b)))
theorem pt {p0:Value} {w:World} {R:Ending->World->Prop} (h:ly p0 w R):Calls Tryz.prog 18 #[p0] w R:=
  aL (.seq none .leaf (.seq none (.seq none .leaf (.one (.loop [3] (.seq none (.seq (some [11]) .leaf .leaf) .leaf)))) .leaf)) [p0] bf Tryz.func18 (by kernel_rfl) (by kernel_rfl) h


/- loop.example/prologserver/spec.DrawLeastModel : function 21 -/
def iR (p0:Value) (w:World) (R:Ending->World->Prop):Prop:=
 RR (aJ (.func (.func 45) #[] #[]) [p0]) w fun a b=>
 R (.returned a) b
theorem lY {p0:Value} {w:World} {R:Ending->World->Prop} (h:iR p0 w R):Calls Tryz.prog 21 #[p0] w R:=
  aL .leaf [p0] bf Tryz.func21 (by kernel_rfl) (by kernel_rfl) h


/- loop.example/prologserver/spec.LeastModel : function 22 -/
def mz (p0:Value) (w:World) (R:Ending->World->Prop):Prop:=
 RR (aJ (.func (.func 26) #[] #[]) [p0,(.int .i64 61)]) w fun a b=>
 RR (sOp (.extract (.const a) 0) 23) b fun b c=>
 RR (sOp (.extract (.const a) 1) 4) c fun a c=>
 R (.returned (.tuple #[b,a])) c
theorem qc {p0:Value} {w:World} {R:Ending->World->Prop} (h:mz p0 w R):Calls Tryz.prog 22 #[p0] w R:=
  aL .leaf [p0] bf Tryz.func22 (by kernel_rfl) (by kernel_rfl) h


/- loop.example/prologserver/impl.ProgramValid : function 23 -/
def kz (p0:Value) (w:World) (R:Ending->World->Prop):Prop:=
 RR (aq .len #[32] 3 [false] [p0]) w fun a b=>
 RR (ar .leq 3 false true a (.int .i64 20)) b fun a b=>
 ah a true (
 RR (aJ (.func (.func 46) #[] #[]) [p0,(.func (.func 58) #[] #[])]) b fun b c=>
 RR (sOp (.unOp .not 4 (.const b)) 4) c fun b c=>
 RR (sOp (.pick (.const a) (.const b) (.const (.bool false))) 4) c fun a b=>
 R (.returned a) b) (
 RR (sOp (.pick (.const a) (.const undef) (.const (.bool false))) 4) b fun a b=>
 R (.returned a) b)
theorem n9 {p0:Value} {w:World} {R:Ending->World->Prop} (h:kz p0 w R):Calls Tryz.prog 23 #[p0] w R:=
  aL .leaf [p0] bf Tryz.func23 (by kernel_rfl) (by kernel_rfl) h


/- loop.example/prologserver/impl.StageModel : function 25 -/
def mI (p0 p1:Value) (w:World) (R:Ending->World->Prop):Prop:=
 RR (ar .lss 3 false true p1 (.int .i64 0)) w fun a b=>
 CondV a (
 R (.returned (.tuple #[(Value.slice none 0 0),(.bool false)])) b) (
 RR (aJ (.func (.func 49) #[] #[]) [p0,p1]) b fun a b=>
 RR (sOp (.extract (.const a) 0) 23) b fun b c=>
 RR (sOp (.extract (.const a) 1) 3) c fun _ c=>
 RR (sOp (.extract (.const a) 2) 4) c fun a c=>
 RR (aJ (.func (.func 36) #[] #[]) [b]) c fun b c=>
 R (.returned (.tuple #[b,a])) c)
theorem qn {p0 p1:Value} {w:World} {R:Ending->World->Prop} (h:mI p0 p1 w R):Calls Tryz.prog 25 #[p0,p1] w R:=
  aL .leaf [p0,p1] bf Tryz.func25 (by kernel_rfl) (by kernel_rfl) h


/- loop.example/prologserver/spec.StageModel : function 26 -/
def ms (p0 p1:Value) (w:World) (R:Ending->World->Prop):Prop:=
 (∃ a:Value->World->Prop,(
 RR (aJ (.func (.func 18) #[] #[]) [p0]) w fun b c=>
 RR (sOp (.unOp .not 4 (.const b)) 4) c fun b c=>
 ah b false (
 RR (ar .lss 3 false true p1 (.int .i64 0)) c fun c d=>
 RR (sOp (.pick (.const b) (.const (.bool true)) (.const c)) 4) d fun b c=>
 a b c) (
 RR (sOp (.pick (.const b) (.const (.bool true)) (.const undef)) 4) c fun b c=>
 a b c))/\
 ∀ b _ _ _ _ _ _:Value,∀ c:World,a b c->
 CondV b (
 RR (aS 23 0 []) c fun a b=>
 R (.returned (.tuple #[a,(.bool false)])) b) (
 (∃ a:Value->World->Prop,(
 RR (ar .gtr 3 false true p1 (.int .i64 60)) c fun b c=>
 CondV b (
 a (.int .i64 61) c) (
 a p1 c))/\
 ∀ b _ _:Value,∀ c:World,a b c->
 RR (aJ (.func (.func 52) #[] #[]) [p0,b]) c fun a b=>
 RR (sOp (.extract (.const a) 0) 23) b fun b c=>
 RR (sOp (.extract (.const a) 1) 3) c fun _ a=>
 RR (aq .len #[23] 3 [false] [b]) a fun a c=>
 RR (ar .gtr 3 false true a (.int .i64 60)) c fun a c=>
 CondV a (
 RR (aS 23 0 []) c fun a b=>
 R (.returned (.tuple #[a,(.bool false)])) b) (
 RR (aJ (.func (.func 62) #[] #[]) [b]) c fun a b=>
 R (.returned (.tuple #[a,(.bool true)])) b))))
theorem qP {p0 p1:Value} {w:World} {R:Ending->World->Prop} (h:ms p0 p1 w R):Calls Tryz.prog 26 #[p0,p1] w R:=
  aL (.seq none .leaf (.seq none (.seq (some [14]) .leaf .leaf) (.seq (some [1]) .leaf .leaf))) [p0,p1] bf Tryz.func26 (by kernel_rfl) (by kernel_rfl) h


/- loop.example/prologserver/spec.l18Open : function 32 -/
def sE (p0:Value) (w:World) (R:Ending->World->Prop):Prop:=
 (∃ a:Value->World->Prop,(
 RR (aq .len #[22] 3 [false] [p0]) w fun b c=>
 RR (ar .gtr 3 false true b (.int .i64 2000)) c fun b c=>
 CondV b (
 RR (sOp (.slice 22 (.const p0) none (some (.const (.int .i64 2000))) none) 22) c fun b c=>
 a b c) (
 a p0 c))/\
 ∀ b _ _ _ _ _:Value,∀ c:World,a b c->
 RR (dD 78 [(0,b)]) c fun a b=>
 RR (sOp (.box 78 (.const a)) 49) b fun a b=>
 R (.returned a) b)
theorem wo {p0:Value} {w:World} {R:Ending->World->Prop} (h:sE p0 w R):Calls Tryz.prog 32 #[p0] w R:=
  aL (.seq none .leaf (.seq (some [0]) .leaf .leaf)) [p0] bf Tryz.func32 (by kernel_rfl) (by kernel_rfl) h


/- loop.example/prologserver/spec.l16Program : function 33 -/
def mF (p0:Value) (w:World) (R:Ending->World->Prop):Prop:=
 RR (aJ (.func (.func 73) #[] #[]) []) w fun a b=>
 RR (aq .len #[67] 3 [false] [a]) b fun b c=>
 RR (aJ (.func (.func 69) #[] #[]) [p0,b]) c fun b c=>
 RR (sOp (.indexAddr 67 (.const a) (.const b)) 0) c fun a b=>
 RR (sOp (.load 9 (.const a)) 9) b fun a b=>
 RR (aJ (.func (.func 74) #[] #[]) [a]) b fun a b=>
 RR (sOp (.extract (.const a) 0) 32) b fun b c=>
 RR (sOp (.extract (.const a) 1) 4) c fun _ a=>
 (∃ c:Value->World->Prop,(
 RR (aJ (.func (.func 69) #[] #[]) [p0,(.int .i64 8)]) a fun a d=>
 RR (ar .eql 3 false true a (.int .i64 0)) d fun a d=>
 CondV a (
 RR (aJ (.func (.func 75) #[] #[]) [p0]) d fun a b=>
 c a b) (
 c b d))/\
 ∀ a _ _ _ _ _:Value,∀ b:World,c a b->
 R (.returned a) b)
theorem qM {p0:Value} {w:World} {R:Ending->World->Prop} (h:mF p0 w R):Calls Tryz.prog 33 #[p0] w R:=
  aL (.seq none .leaf (.seq none .leaf (.seq none .leaf (.seq (some [4]) .leaf .leaf)))) [p0] bf Tryz.func33 (by kernel_rfl) (by kernel_rfl) h


/- loop.example/prologserver/spec.l1Mutate : function 34 -/
def pS (p0 p1:Value) (w:World) (R:Ending->World->Prop):Prop:=
 RR (sOp (.box 25 (.const p1)) 0) w fun a b=>
 RR (sOp (.alloc 25) 0) b fun b c=>
 RR (sOp (.load 25 (.const a)) 25) c fun a c=>
 RR (aJ (.func (.func 42) #[] #[]) [a]) c fun a c=>
 RR (sOp (.alloc 25) 0) c fun c d=>
 RR (sOp (.store 25 (.const c) (.const a)) 0) d fun _ a=>
 (∃ d:World->Prop,(
 RR (aJ (.func (.func 69) #[] #[]) [p0,(.int .i64 50)]) a fun a b=>
 RR (ar .eql 3 false true a (.int .i64 0)) b fun b e=>
 CondV b (
 RR (aS 71 5 [(0,(.int .i64 0)),(1,(.int .i64 4)),(2,(.int .i64 1)),(3,(.int .i64 2)),(4,(.int .i64 3))]) e fun a b=>
 RR (aJ (.func (.func 61) #[] #[]) [p0,a]) b fun a b=>
 RR (sOp (.fieldAddr 25 (.const c) 0) 0) b fun b c=>
 RR (sOp (.store 3 (.const b) (.const a)) 0) c fun _ a=>
 d a) (
 RR (ar .eql 3 false true a (.int .i64 1)) e fun b e=>
 CondV b (
 RR (aS 71 5 [(0,(.int .i64 26)),(1,(.int .i64 1000)),(2,(.int .i64 (-1000))),(3,(.int .i64 (-1))),(4,(.int .i64 1))]) e fun a b=>
 RR (aJ (.func (.func 61) #[] #[]) [p0,a]) b fun a b=>
 RR (sOp (.fieldAddr 25 (.const c) 1) 0) b fun b c=>
 RR (sOp (.store 3 (.const b) (.const a)) 0) c fun _ a=>
 d a) (
 RR (ar .eql 3 false true a (.int .i64 2)) e fun b e=>
 CondV b (
 RR (aS 67 5 [(0,(.string ⟨#[]⟩)),(1,(.string ⟨#[88]⟩)),(2,(.string ⟨#[116,111,111,108,111,110,103]⟩)),(3,(.string ⟨#[195,169]⟩)),(4,(.string ⟨#[97]⟩))]) e fun a b=>
 RR (aJ (.func (.func 76) #[] #[]) [p0,a]) b fun a b=>
 RR (sOp (.fieldAddr 25 (.const c) 2) 0) b fun b c=>
 RR (sOp (.store 9 (.const b) (.const a)) 0) c fun _ a=>
 d a) (
 RR (ar .eql 3 false true a (.int .i64 3)) e fun b e=>
 CondV b (
 (∃ (a:World->Prop) (b:World->Nat),a e/\
 ∀ e f g h i j _ _ _ _:Value,∀ k:World,a k->
 RR (sOp (.fieldAddr 25 (.const c) 3) 0) k fun l m=>
 RR (sOp (.load 23 (.const l)) 23) m fun l m=>
 RR (aq .len #[23] 3 [false] [l]) m fun l m=>
 RR (ar .leq 3 false true l (.int .i64 4)) m fun l m=>
 CondV l (
 (∃ d:(Nat->Bool)->Value->Value->Value->Value->Value->Value->World->Prop,d (fun _=>false) e f g h i j { m with drawn:=m.drawn+1 }/\(
 (∀ a:Nat->Bool,a 0=false->∀ b e f g h i j,d a b e f g h i j->
 RR (sOp (.fieldAddr 25 (.const c) 3) 0) j fun c i=>
 d (aw a 0) b e f g h c i)/\
 (∀ a:Nat->Bool,a 1=false->a 0=true->∀ b c e f g h i,d a b c e f g h i->
 RR (sOp (.load 23 (.const h)) 23) i fun g i=>
 d (aw a 1) b c e f g h i)/\
 (∀ a:Nat->Bool,a 2=false->∀ b c e f g h i,d a b c e f g h i->
 RR (aJ (.func (.func 77) #[] #[]) [(.int .i64 1)]) i fun f i=>
 d (aw a 2) b c e f g h i)/\
 (∀ a:Nat->Bool,a 3=false->a 2=true->∀ b c e f g h i,d a b c e f g h i->
 RR (aS 23 1 [(0,f)]) i fun e i=>
 d (aw a 3) b c e f g h i)/\
 (∀ a:Nat->Bool,a 4=false->a 1=true->a 3=true->a 2=true->∀ b c e f g h i,d a b c e f g h i->
 RR (aq .append #[23,23] 23 [false,false] [g,e]) i fun c i=>
 d (aw a 4) b c e f g h i)/\
 (∀ a:Nat->Bool,a 5=false->a 0=true->a 1=true->a 2=true->a 3=true->a 4=true->∀ b e f g h i j,d a b e f g h i j->
 RR (sOp (.fieldAddr 25 (.const c) 3) 0) j fun b c=>
 d (aw a 5) b e f g h i c)/\
 (∀ a:Nat->Bool,a 6=false->a 5=true->a 4=true->a 4=true->a 0=true->a 1=true->a 2=true->a 3=true->a 4=true->∀ b c e f g h i,d a b c e f g h i->
 RR (sOp (.store 23 (.const b) (.const c)) 0) i fun _ i=>
 d (aw a 6) b c e f g h i)/\
 True)/\
 ∀ c:Nat->Bool,c 6=true->c 5=true->c 4=true->c 3=true->c 2=true->c 1=true->c 0=true->∀ e f g h i j l,d c e f g h i j l->
 a l/\b l<b k)) (
 d m))) (
 RR (ar .eql 3 false true a (.int .i64 4)) e fun a b=>
 CondV a (
 (∃ (a:Value->World->Prop) (e:Value->World->Nat),a (.int .i64 0) b/\
 ∀ b _ _ _ _ _ _ _:Value,∀ f:World,a b f->
 RR (ar .lss 3 false true b (.int .i64 30)) f fun g h=>
 CondV g (
 RR (sOp (.load 25 (.const c)) 25) h fun d g=>
 RR (aS 23 1 [(0,d)]) g fun d g=>
 RR (aJ (.func (.func 78) #[] #[]) [(.string ⟨#[115]⟩),d]) g fun d g=>
 RR (sOp (.store 25 (.const c) (.const d)) 0) g fun _ c=>
 RR (ar .add 3 false true b (.int .i64 1)) c fun c d=>
 a c d/\e c d<e b f) (
 d h))) (
 d b))))))/\
 ∀ _ _ _ _ _ _ _ _ _ _ _ _ _ _ _ _ _ _ _ _ _ _ _ _ _ _ _ _ _ _ _ _ _ _ _ _ _ _ _ _ _ _:Value,∀ a:World,d a->
 RR (sOp (.load 25 (.const c)) 25) a fun a c=>
 RR (sOp (.store 25 (.const b) (.const a)) 0) c fun _ a=>
 (be Tryz.prog 25 b a fun b=>R (.returned b) a))
theorem uz {p0 p1:Value} {w:World} {R:Ending->World->Prop} (h:pS p0 p1 w R):Calls Tryz.prog 34 #[p0,p1] w R:=
  aL (.seq none .leaf (.seq none .leaf (.seq (some []) (.seq none .leaf (.one (.seq none .leaf (.two .leaf (.seq none .leaf (.two .leaf (.seq none .leaf (.two .leaf (.seq none .leaf (.two (.one (.loop [] .leaf)) (.seq none .leaf (.two (.seq none .leaf (.one (.loop [6] .leaf))) .leaf)))))))))))) .leaf))) [p0,p1] bf Tryz.func34 (by kernel_rfl) (by kernel_rfl) h


/- loop.example/prologserver/impl.ownList : function 36 -/
def tg (p0:Value) (w:World) (R:Ending->World->Prop):Prop:=
 RR (aq .len #[23] 3 [false] [p0]) w fun a b=>
 (∃ (c:Value->Value->World->Prop) (d:Value->Value->World->Nat),c (.int .i64 0) (Value.slice none 0 0) b/\
 ∀ b _ e _ _ _ _ _ _ _ _ _:Value,∀ f:World,c b e f->
 RR (ar .lss 3 false false b a) f fun a g=>
 CondV a (
 RR (sOp (.indexAddr 23 (.const p0) (.const b)) 0) g fun a g=>
 RR (sOp (.load 25 (.const a)) 25) g fun a g=>
 RR (sOp (.alloc 25) 0) g fun g h=>
 RR (sOp (.store 25 (.const g) (.const a)) 0) h fun _ a=>
 RR (sOp (.load 25 (.const g)) 25) a fun a g=>
 RR (aJ (.func (.func 81) #[] #[]) [a]) g fun a g=>
 RR (aS 23 1 [(0,a)]) g fun a g=>
 RR (aq .append #[23,23] 23 [false,false] [e,a]) g fun a g=>
 RR (ar .add 3 false true b (.int .i64 1)) g fun g h=>
 c g a h/\d g a h<d b e f) (
 R (.returned e) g))
theorem wE {p0:Value} {w:World} {R:Ending->World->Prop} (h:tg p0 w R):Calls Tryz.prog 36 #[p0] w R:=
  aL (.seq none .leaf (.seq none .leaf (.seq none (.seq none .leaf (.one (.loop [8,3] .leaf))) .leaf))) [p0] bf Tryz.func36 (by kernel_rfl) (by kernel_rfl) h


/- slices.Clone[[]loop.example/prologserver/impl.Term,loop.example/prologserver/impl.Term] : function 38 -/
def mL (p0:Value) (w:World) (R:Ending->World->Prop):Prop:=
 RR (ar .eql 23 false true p0 (Value.slice none 0 0)) w fun a b=>
 CondV a (
 R (.returned (Value.slice none 0 0)) b) (
 RR (aS 23 0 []) b fun a b=>
 RR (aq .append #[23,23] 23 [false,false] [a,p0]) b fun a b=>
 R (.returned a) b)
theorem qf {p0:Value} {w:World} {R:Ending->World->Prop} (h:mL p0 w R):Calls Tryz.prog 38 #[p0] w R:=
  aL .leaf [p0] bf Tryz.func38 (by kernel_rfl) (by kernel_rfl) h


/- loop.example/prologserver/impl.TermSame : function 40 -/
def pU (p0 p1:Value) (w:World) (R:Ending->World->Prop):Prop:=
 RR (sOp (.box 25 (.const p0)) 0) w fun a b=>
 RR (sOp (.box 25 (.const p1)) 0) b fun b c=>
 RR (sOp (.fieldAddr 25 (.const a) 0) 0) c fun c d=>
 RR (sOp (.load 3 (.const c)) 3) d fun c d=>
 RR (sOp (.fieldAddr 25 (.const b) 0) 0) d fun d e=>
 RR (sOp (.load 3 (.const d)) 3) e fun d e=>
 RR (ar .eql 3 false false c d) e fun c d=>
 ((fun e:VW=>ah c true (
 RR (sOp (.fieldAddr 25 (.const a) 1) 0) d fun a d=>
 RR (sOp (.load 3 (.const a)) 3) d fun a d=>
 RR (sOp (.fieldAddr 25 (.const b) 1) 0) d fun b d=>
 RR (sOp (.load 3 (.const b)) 3) d fun b d=>
 RR (ar .eql 3 false false a b) d fun a b=>
 RR (sOp (.pick (.const c) (.const a) (.const (.bool false))) 4) b fun a b=>e a b) (
 RR (sOp (.pick (.const c) (.const undef) (.const (.bool false))) 4) d fun a b=>e a b)) fun c d=>
 ((fun e:VW=>ah c true (
 RR (sOp (.fieldAddr 25 (.const a) 2) 0) d fun a d=>
 RR (sOp (.load 9 (.const a)) 9) d fun a d=>
 RR (sOp (.fieldAddr 25 (.const b) 2) 0) d fun b d=>
 RR (sOp (.load 9 (.const b)) 9) d fun b d=>
 RR (ar .eql 9 false false a b) d fun a b=>
 RR (sOp (.pick (.const c) (.const a) (.const (.bool false))) 4) b fun a b=>e a b) (
 RR (sOp (.pick (.const c) (.const undef) (.const (.bool false))) 4) d fun a b=>e a b)) fun c d=>
 ah c true (
 RR (sOp (.fieldAddr 25 (.const a) 3) 0) d fun a d=>
 RR (sOp (.load 23 (.const a)) 23) d fun a d=>
 RR (sOp (.fieldAddr 25 (.const b) 3) 0) d fun b d=>
 RR (sOp (.load 23 (.const b)) 23) d fun b d=>
 RR (aJ (.func (.func 83) #[] #[]) [a,b,(.func (.func 40) #[] #[])]) d fun a b=>
 RR (sOp (.pick (.const c) (.const a) (.const (.bool false))) 4) b fun a b=>
 R (.returned a) b) (
 RR (sOp (.pick (.const c) (.const undef) (.const (.bool false))) 4) d fun a b=>
 R (.returned a) b)))
theorem tV {p0 p1:Value} {w:World} {R:Ending->World->Prop} (h:pU p0 p1 w R):Calls Tryz.prog 40 #[p0,p1] w R:=
  aL .leaf [p0,p1] bf Tryz.func40 (by kernel_rfl) (by kernel_rfl) h


/- loop.example/prologserver/spec.l1Copy : function 42 -/
def m9 (p0:Value) (w:World) (R:Ending->World->Prop):Prop:=
 RR (sOp (.box 25 (.const p0)) 0) w fun a b=>
 RR (sOp (.alloc 25) 0) b fun b c=>
 RR (sOp (.fieldAddr 25 (.const a) 0) 0) c fun c d=>
 RR (sOp (.load 3 (.const c)) 3) d fun c d=>
 RR (sOp (.fieldAddr 25 (.const a) 1) 0) d fun d e=>
 RR (sOp (.load 3 (.const d)) 3) e fun d e=>
 RR (sOp (.fieldAddr 25 (.const a) 2) 0) e fun e f=>
 RR (sOp (.load 9 (.const e)) 9) f fun e f=>
 RR (dD 25 [(0,c),(1,d),(2,e)]) f fun c d=>
 RR (sOp (.alloc 25) 0) d fun d e=>
 RR (sOp (.store 25 (.const d) (.const c)) 0) e fun _ c=>
 (∃ (e:Value->World->Prop) (f:Value->World->Nat),e (.int .i64 0) c/\
 ∀ c _ _ g h i j k l m n o p q _ _ _ _ _:Value,∀ r:World,e c r->
 RR (sOp (.fieldAddr 25 (.const a) 3) 0) r fun s t=>
 RR (sOp (.load 23 (.const s)) 23) t fun s t=>
 RR (aq .len #[23] 3 [false] [s]) t fun s t=>
 RR (ar .lss 3 false false c s) t fun s t=>
 CondV s (
 (∃ b:(Nat->Bool)->Value->Value->Value->Value->Value->Value->Value->Value->Value->Value->Value->World->Prop,b (fun _=>false) g h i j k l m n o p q { t with drawn:=t.drawn+1 }/\(
 (∀ a:Nat->Bool,a 0=false->∀ c e f g h i j k l m n o,b a c e f g h i j k l m n o->
 RR (sOp (.fieldAddr 25 (.const d) 3) 0) o fun d n=>
 b (aw a 0) c e f g h i j k l m d n)/\
 (∀ a:Nat->Bool,a 1=false->a 0=true->∀ c d e f g h i j k l m n,b a c d e f g h i j k l m n->
 RR (sOp (.load 23 (.const m)) 23) n fun l n=>
 b (aw a 1) c d e f g h i j k l m n)/\
 (∀ c:Nat->Bool,c 2=false->∀ d e f g h i j k l m n o,b c d e f g h i j k l m n o->
 RR (sOp (.fieldAddr 25 (.const a) 3) 0) o fun a l=>
 b (aw c 2) d e f g h i j k a m n l)/\
 (∀ a:Nat->Bool,a 3=false->a 2=true->∀ c d e f g h i j k l m n,b a c d e f g h i j k l m n->
 RR (sOp (.load 23 (.const k)) 23) n fun j n=>
 b (aw a 3) c d e f g h i j k l m n)/\
 (∀ a:Nat->Bool,a 4=false->∀ d e f g h i j k l m n o,b a d e f g h i j k l m n o->
 b (aw a 4) d e f g h i c k l m n o)/\
 (∀ a:Nat->Bool,a 5=false->a 3=true->a 4=true->∀ c d e f g h i j k l m n,b a c d e f g h i j k l m n->
 RR (sOp (.indexAddr 23 (.const j) (.const i)) 0) n fun h n=>
 b (aw a 5) c d e f g h i j k l m n)/\
 (∀ a:Nat->Bool,a 6=false->a 5=true->∀ c d e f g h i j k l m n,b a c d e f g h i j k l m n->
 RR (sOp (.load 25 (.const h)) 25) n fun g n=>
 b (aw a 6) c d e f g h i j k l m n)/\
 (∀ a:Nat->Bool,a 7=false->a 6=true->∀ c d e f g h i j k l m n,b a c d e f g h i j k l m n->
 RR (aJ (.func (.func 42) #[] #[]) [g]) n fun f n=>
 b (aw a 7) c d e f g h i j k l m n)/\
 (∀ a:Nat->Bool,a 8=false->a 7=true->∀ c d e f g h i j k l m n,b a c d e f g h i j k l m n->
 RR (aS 23 1 [(0,f)]) n fun e n=>
 b (aw a 8) c d e f g h i j k l m n)/\
 (∀ a:Nat->Bool,a 9=false->a 1=true->a 8=true->a 7=true->∀ c d e f g h i j k l m n,b a c d e f g h i j k l m n->
 RR (aq .append #[23,23] 23 [false,false] [l,e]) n fun d n=>
 b (aw a 9) c d e f g h i j k l m n)/\
 (∀ a:Nat->Bool,a 10=false->a 0=true->a 1=true->a 2=true->a 3=true->a 4=true->a 5=true->a 6=true->a 7=true->a 8=true->a 9=true->∀ c e f g h i j k l m n o,b a c e f g h i j k l m n o->
 RR (sOp (.fieldAddr 25 (.const d) 3) 0) o fun c d=>
 b (aw a 10) c e f g h i j k l m n d)/\
 (∀ a:Nat->Bool,a 11=false->a 10=true->a 9=true->a 9=true->a 0=true->a 1=true->a 2=true->a 3=true->a 4=true->a 5=true->a 6=true->a 7=true->a 8=true->a 9=true->∀ c d e f g h i j k l m n,b a c d e f g h i j k l m n->
 RR (sOp (.store 23 (.const c) (.const d)) 0) n fun _ n=>
 b (aw a 11) c d e f g h i j k l m n)/\
 True)/\
 ∀ a:Nat->Bool,a 11=true->a 10=true->a 9=true->a 8=true->a 7=true->a 6=true->a 5=true->a 4=true->a 3=true->a 2=true->a 1=true->a 0=true->∀ d g h i j k l m n o p q,b a d g h i j k l m n o p q->
 RR (ar .add 3 false true c (.int .i64 1)) q fun a b=>
 e a b/\f a b<f c r)) (
 RR (sOp (.load 25 (.const d)) 25) t fun a c=>
 RR (sOp (.store 25 (.const b) (.const a)) 0) c fun _ a=>
 (be Tryz.prog 25 b a fun b=>R (.returned b) a)))
theorem nQ {p0:Value} {w:World} {R:Ending->World->Prop} (h:m9 p0 w R):Calls Tryz.prog 42 #[p0] w R:=
  aL (.seq none .leaf (.seq none .leaf (.seq none (.seq none .leaf (.one (.loop [4] .leaf))) .leaf))) [p0] bf Tryz.func42 (by kernel_rfl) (by kernel_rfl) h


/- loop.example/prologserver/impl.TermValid : function 43 -/
def oh (p0:Value) (w:World) (R:Ending->World->Prop):Prop:=
 RR (sOp (.box 25 (.const p0)) 0) w fun a b=>
 RR (sOp (.alloc 3) 0) b fun b c=>
 RR (sOp (.store 3 (.const b) (.const (.int .i64 0))) 0) c fun _ c=>
 RR (sOp (.load 25 (.const a)) 25) c fun a c=>
 RR (aJ (.func (.func 86) #[] #[]) [a,(.int .i64 1),b]) c fun a b=>
 R (.returned a) b
theorem rB {p0:Value} {w:World} {R:Ending->World->Prop} (h:oh p0 w R):Calls Tryz.prog 43 #[p0] w R:=
  aL .leaf [p0] bf Tryz.func43 (by kernel_rfl) (by kernel_rfl) h


/- loop.example/prologserver/impl.instance : function 44 -/
def p8 (p0 p1 p2:Value) (w:World) (R:Ending->World->Prop):Prop:=
 RR (sOp (.box 25 (.const p0)) 0) w fun a b=>
 RR (sOp (.box 25 (.const p1)) 0) b fun b c=>
 RR (sOp (.fieldAddr 25 (.const b) 0) 0) c fun c d=>
 RR (sOp (.load 3 (.const c)) 3) d fun c d=>
 RR (ar .eql 3 false true c (.int .i64 1)) d fun c d=>
 CondV c (
 RR (sOp (.fieldAddr 25 (.const b) 1) 0) d fun c d=>
 RR (sOp (.load 3 (.const c)) 3) d fun c d=>
 RR (sOp (.lookup 59 (.const p2) (.const c) true) 85) d fun c d=>
 RR (sOp (.extract (.const c) 0) 25) d fun d e=>
 RR (sOp (.extract (.const c) 1) 4) e fun c e=>
 RR (sOp (.alloc 25) 0) e fun e f=>
 RR (sOp (.store 25 (.const e) (.const d)) 0) f fun _ d=>
 RR (sOp (.unOp .not 4 (.const c)) 4) d fun c d=>
 CondV c (
 RR (sOp (.fieldAddr 25 (.const b) 1) 0) d fun b c=>
 RR (sOp (.load 3 (.const b)) 3) c fun b c=>
 RR (sOp (.load 25 (.const a)) 25) c fun a c=>
 RR (sOp (.mapUpdate 59 (.const p2) (.const b) (.const a)) 0) c fun _ a=>
 R (.returned (.bool true)) a) (
 RR (sOp (.load 25 (.const e)) 25) d fun b c=>
 RR (sOp (.load 25 (.const a)) 25) c fun a c=>
 RR (aJ (.func (.func 40) #[] #[]) [b,a]) c fun a b=>
 R (.returned a) b)) (
 (∃ c:Value->World->Prop,(
 RR (sOp (.fieldAddr 25 (.const a) 0) 0) d fun d e=>
 RR (sOp (.load 3 (.const d)) 3) e fun d e=>
 RR (sOp (.fieldAddr 25 (.const b) 0) 0) e fun e f=>
 RR (sOp (.load 3 (.const e)) 3) f fun e f=>
 RR (ar .neq 3 false false d e) f fun d e=>
 ((fun c:VW=>ah d false (
 RR (sOp (.fieldAddr 25 (.const a) 1) 0) e fun a e=>
 RR (sOp (.load 3 (.const a)) 3) e fun a e=>
 RR (sOp (.fieldAddr 25 (.const b) 1) 0) e fun b e=>
 RR (sOp (.load 3 (.const b)) 3) e fun b e=>
 RR (ar .neq 3 false false a b) e fun a b=>
 RR (sOp (.pick (.const d) (.const (.bool true)) (.const a)) 4) b fun a b=>c a b) (
 RR (sOp (.pick (.const d) (.const (.bool true)) (.const undef)) 4) e fun a b=>c a b)) fun d e=>
 ((fun c:VW=>ah d false (
 RR (sOp (.fieldAddr 25 (.const a) 2) 0) e fun a e=>
 RR (sOp (.load 9 (.const a)) 9) e fun a e=>
 RR (sOp (.fieldAddr 25 (.const b) 2) 0) e fun b e=>
 RR (sOp (.load 9 (.const b)) 9) e fun b e=>
 RR (ar .neq 9 false false a b) e fun a b=>
 RR (sOp (.pick (.const d) (.const (.bool true)) (.const a)) 4) b fun a b=>c a b) (
 RR (sOp (.pick (.const d) (.const (.bool true)) (.const undef)) 4) e fun a b=>c a b)) fun d e=>
 ah d false (
 RR (sOp (.fieldAddr 25 (.const a) 3) 0) e fun a e=>
 RR (sOp (.load 23 (.const a)) 23) e fun a e=>
 RR (aq .len #[23] 3 [false] [a]) e fun a e=>
 RR (sOp (.fieldAddr 25 (.const b) 3) 0) e fun b e=>
 RR (sOp (.load 23 (.const b)) 23) e fun b e=>
 RR (aq .len #[23] 3 [false] [b]) e fun b e=>
 RR (ar .neq 3 false false a b) e fun a b=>
 RR (sOp (.pick (.const d) (.const (.bool true)) (.const a)) 4) b fun a b=>
 c a b) (
 RR (sOp (.pick (.const d) (.const (.bool true)) (.const undef)) 4) e fun a b=>
 c a b))))/\
 ∀ d _ _ _ _ _ _ _ _ _ _ _ _ _ _ _ _ _ _ _ _ _ _ _ _ _ _ _:Value,∀ e:World,c d e->
 CondV d (
 R (.returned (.bool false)) e) (
 RR (sOp (.fieldAddr 25 (.const b) 3) 0) e fun c d=>
 RR (sOp (.load 23 (.const c)) 23) d fun c d=>
 RR (aq .len #[23] 3 [false] [c]) d fun c d=>
 (∃ (e:Value->World->Prop) (f:Value->World->Nat),e (.int .i64 0) d/\
 ∀ d _ _ g h i j k l m n o p q r s _ _ _:Value,∀ t:World,e d t->
 RR (ar .lss 3 false false d c) t fun c u=>
 CondV c (
 (∃ c:(Nat->Bool)->Value->Value->Value->Value->Value->Value->Value->Value->Value->Value->Value->Value->Value->World->Prop,c (fun _=>false) g h i j k l m n o p q r s { u with drawn:=u.drawn+1 }/\(
 (∀ b:Nat->Bool,b 0=false->∀ d e f g h i j k l m n o p q,c b d e f g h i j k l m n o p q->
 RR (sOp (.fieldAddr 25 (.const a) 3) 0) q fun a p=>
 c (aw b 0) d e f g h i j k l m n o a p)/\
 (∀ a:Nat->Bool,a 1=false->a 0=true->∀ b d e f g h i j k l m n o p,c a b d e f g h i j k l m n o p->
 RR (sOp (.load 23 (.const o)) 23) p fun n p=>
 c (aw a 1) b d e f g h i j k l m n o p)/\
 (∀ a:Nat->Bool,a 2=false->∀ b e f g h i j k l m n o p q,c a b e f g h i j k l m n o p q->
 c (aw a 2) b e f g h i j k l m d o p q)/\
 (∀ a:Nat->Bool,a 3=false->a 1=true->a 2=true->∀ b d e f g h i j k l m n o p,c a b d e f g h i j k l m n o p->
 RR (sOp (.indexAddr 23 (.const n) (.const m)) 0) p fun l p=>
 c (aw a 3) b d e f g h i j k l m n o p)/\
 (∀ a:Nat->Bool,a 4=false->a 3=true->∀ b d e f g h i j k l m n o p,c a b d e f g h i j k l m n o p->
 RR (sOp (.load 25 (.const l)) 25) p fun k p=>
 c (aw a 4) b d e f g h i j k l m n o p)/\
 (∀ a:Nat->Bool,a 5=false->∀ d e f g h i j k l m n o p q,c a d e f g h i j k l m n o p q->
 RR (sOp (.fieldAddr 25 (.const b) 3) 0) q fun b k=>
 c (aw a 5) d e f g h i j b l m n o p k)/\
 (∀ a:Nat->Bool,a 6=false->a 5=true->∀ b d e f g h i j k l m n o p,c a b d e f g h i j k l m n o p->
 RR (sOp (.load 23 (.const j)) 23) p fun i p=>
 c (aw a 6) b d e f g h i j k l m n o p)/\
 (∀ a:Nat->Bool,a 7=false->∀ b e f g h i j k l m n o p q,c a b e f g h i j k l m n o p q->
 c (aw a 7) b e f g h d j k l m n o p q)/\
 (∀ a:Nat->Bool,a 8=false->a 6=true->a 7=true->∀ b d e f g h i j k l m n o p,c a b d e f g h i j k l m n o p->
 RR (sOp (.indexAddr 23 (.const i) (.const h)) 0) p fun g p=>
 c (aw a 8) b d e f g h i j k l m n o p)/\
 (∀ a:Nat->Bool,a 9=false->a 8=true->∀ b d e f g h i j k l m n o p,c a b d e f g h i j k l m n o p->
 RR (sOp (.load 25 (.const g)) 25) p fun f p=>
 c (aw a 9) b d e f g h i j k l m n o p)/\
 (∀ a:Nat->Bool,a 10=false->∀ b d e f g h i j k l m n o p,c a b d e f g h i j k l m n o p->
 c (aw a 10) b d p2 f g h i j k l m n o p)/\
 (∀ a:Nat->Bool,a 11=false->a 4=true->a 9=true->a 10=true->∀ b d e f g h i j k l m n o p,c a b d e f g h i j k l m n o p->
 RR (aJ (.func (.func 44) #[] #[]) [k,f,e]) p fun d p=>
 c (aw a 11) b d e f g h i j k l m n o p)/\
 (∀ a:Nat->Bool,a 12=false->a 11=true->∀ b d e f g h i j k l m n o p,c a b d e f g h i j k l m n o p->
 RR (sOp (.unOp .not 4 (.const d)) 4) p fun b p=>
 c (aw a 12) b d e f g h i j k l m n o p)/\
 True)/\
 ∀ a:Nat->Bool,a 12=true->a 11=true->a 10=true->a 9=true->a 8=true->a 7=true->a 6=true->a 5=true->a 4=true->a 3=true->a 2=true->a 1=true->a 0=true->∀ b g h i j k l m n o p q r s,c a b g h i j k l m n o p q r s->
 CondV b (
 R (.returned (.bool false)) s) (
 RR (ar .add 3 false true d (.int .i64 1)) s fun a b=>
 e a b/\f a b<f d t))) (
 R (.returned (.bool true)) u)))))
theorem uV {p0 p1 p2:Value} {w:World} {R:Ending->World->Prop} (h:p8 p0 p1 p2 w R):Calls Tryz.prog 44 #[p0,p1,p2] w R:=
  aL (.seq none .leaf (.seq none .leaf (.seq none (.seq (some [56]) .leaf .leaf) (.seq none (.seq none .leaf (.one (.loop [60] .leaf))) .leaf)))) [p0,p1,p2] bf Tryz.func44 (by kernel_rfl) (by kernel_rfl) h


/- loop.example/prologserver/spec.DrawFlatProgram : function 45 -/
def iH (p0:Value) (w:World) (R:Ending->World->Prop):Prop:=
 RR (aJ (.func (.func 32) #[] #[]) [p0]) w fun a b=>
 RR (aJ (.func (.func 33) #[] #[]) [a]) b fun b c=>
 RR (aJ (.func (.func 60) #[] #[]) [a,b]) c fun a b=>
 R (.returned a) b
theorem lf {p0:Value} {w:World} {R:Ending->World->Prop} (h:iH p0 w R):Calls Tryz.prog 45 #[p0] w R:=
  aL .leaf [p0] bf Tryz.func45 (by kernel_rfl) (by kernel_rfl) h


/- slices.ContainsFunc[[]loop.example/prologserver/impl.Clause,loop.example/prologserver/impl.Clause] : function 46 -/
def gF (p0 p1:Value) (w:World) (R:Ending->World->Prop):Prop:=
 RR (aJ (.func (.func 87) #[] #[]) [p0,p1]) w fun a b=>
 RR (ar .geq 3 false true a (.int .i64 0)) b fun a b=>
 R (.returned a) b
theorem jc {p0 p1:Value} {w:World} {R:Ending->World->Prop} (h:gF p0 p1 w R):Calls Tryz.prog 46 #[p0,p1] w R:=
  aL .leaf [p0,p1] bf Tryz.func46 (by kernel_rfl) (by kernel_rfl) h


/- loop.example/prologserver/impl.FlatProgram$1 : function 47 -/
def jI (p0:Value) (w:World) (R:Ending->World->Prop):Prop:=
 RR (sOp (.box 39 (.const p0)) 0) w fun a b=>
 RR (sOp (.load 39 (.const a)) 39) b fun a b=>
 RR (aJ (.func (.func 48) #[] #[]) [a]) b fun a b=>
 RR (sOp (.unOp .not 4 (.const a)) 4) b fun a b=>
 R (.returned a) b
theorem mN {p0:Value} {w:World} {R:Ending->World->Prop} (h:jI p0 w R):Calls Tryz.prog 47 #[p0] w R:=
  aL .leaf [p0] bf Tryz.func47 (by kernel_rfl) (by kernel_rfl) h


/- loop.example/prologserver/impl.flatClause : function 48 -/
def mC (p0:Value) (w:World) (R:Ending->World->Prop):Prop:=
 RR (sOp (.box 39 (.const p0)) 0) w fun a b=>
 (∃ c:Value->World->Prop,(
 RR (sOp (.fieldAddr 39 (.const a) 0) 0) b fun b d=>
 RR (sOp (.load 25 (.const b)) 25) d fun b d=>
 RR (aJ (.func (.func 88) #[] #[]) [b]) d fun b d=>
 RR (sOp (.unOp .not 4 (.const b)) 4) d fun b d=>
 ((fun c:VW=>ah b false (
 RR (sOp (.fieldAddr 39 (.const a) 1) 0) d fun a d=>
 RR (sOp (.load 23 (.const a)) 23) d fun a d=>
 RR (aq .len #[23] 3 [false] [a]) d fun a d=>
 RR (ar .gtr 3 false true a (.int .i64 3)) d fun a d=>
 RR (sOp (.pick (.const b) (.const (.bool true)) (.const a)) 4) d fun a b=>c a b) (
 RR (sOp (.pick (.const b) (.const (.bool true)) (.const undef)) 4) d fun a b=>c a b)) fun b d=>
 ah b false (
 RR (sOp (.fieldAddr 39 (.const a) 1) 0) d fun a d=>
 RR (sOp (.load 23 (.const a)) 23) d fun a d=>
 RR (aJ (.func (.func 57) #[] #[]) [a,(.func (.func 89) #[] #[])]) d fun a d=>
 RR (sOp (.pick (.const b) (.const (.bool true)) (.const a)) 4) d fun a b=>
 c a b) (
 RR (sOp (.pick (.const b) (.const (.bool true)) (.const undef)) 4) d fun a b=>
 c a b)))/\
 ∀ b _ _ _ _ _ _ _ _ _ _ _ _ _ _:Value,∀ d:World,c b d->
 CondV b (
 R (.returned (.bool false)) d) (
 RR (sOp (.fieldAddr 39 (.const a) 1) 0) d fun b c=>
 RR (sOp (.load 23 (.const b)) 23) c fun b c=>
 RR (aJ (.func (.func 90) #[] #[]) [b]) c fun b c=>
 RR (sOp (.alloc 71) 0) c fun c d=>
 RR (sOp (.store 71 (.const c) (.const b)) 0) d fun _ b=>
 RR (sOp (.fieldAddr 39 (.const a) 0) 0) b fun a b=>
 RR (sOp (.load 25 (.const a)) 25) b fun a b=>
 RR (aJ (.func (.func 92) #[] #[]) [a,(Value.slice none 0 0)]) b fun a b=>
 RR (gP (.func 93) [] [c]) b fun b c=>
 RR (aJ (.func (.func 91) #[] #[]) [a,b]) c fun a b=>
 RR (sOp (.unOp .not 4 (.const a)) 4) b fun a b=>
 R (.returned a) b))
theorem qt {p0:Value} {w:World} {R:Ending->World->Prop} (h:mC p0 w R):Calls Tryz.prog 48 #[p0] w R:=
  aL (.seq none .leaf (.seq none (.seq (some [18]) .leaf .leaf) .leaf)) [p0] bf Tryz.func48 (by kernel_rfl) (by kernel_rfl) h


/- loop.example/prologserver/impl.stages : function 49 -/
def vi (p0 p1:Value) (w:World) (R:Ending->World->Prop):Prop:=
 RR (aJ (.func (.func 15) #[] #[]) [p0]) w fun a b=>
 RR (sOp (.unOp .not 4 (.const a)) 4) b fun a b=>
 CondV a (
 R (.returned (.tuple #[(Value.slice none 0 0),(.int .i64 0),(.bool false)])) b) (
 (∃ a:Value->Value->World->Prop,(
 (∃ (c:Value->Value->World->Prop) (d:Value->Value->World->Nat),c (.int .i64 0) (Value.slice none 0 0) b/\
 ∀ b _ _ e _ _ _ _ _ _ _ _ _ _ _ _ _ _ _ _ _ _ _ _ _ _:Value,∀ f:World,c b e f->
 RR (ar .lss 3 false false b p1) f fun g h=>
 CondV g (
 RR (aJ (.func (.func 95) #[] #[]) [p0,e]) h fun g h=>
 RR (sOp (.extract (.const g) 0) 23) h fun h i=>
 RR (sOp (.extract (.const g) 1) 4) i fun g i=>
 RR (sOp (.unOp .not 4 (.const g)) 4) i fun g i=>
 CondV g (
 R (.returned (.tuple #[(Value.slice none 0 0),(.int .i64 0),(.bool false)])) i) (
 RR (aq .len #[23] 3 [false] [h]) i fun g i=>
 RR (aq .len #[23] 3 [false] [e]) i fun i j=>
 RR (ar .eql 3 false false g i) j fun g i=>
 CondV g (
 a b e i) (
 RR (ar .add 3 false true b (.int .i64 1)) i fun a g=>
 c a h g/\d a h g<d b e f))) (
 a b e h)))/\
 ∀ b _ _ c _ _ _ _ _ _ _ _ _ _ _ _ _ _ _ _ _ _ _ _ _ _:Value,∀ d:World,a b c d->
 R (.returned (.tuple #[c,b,(.bool true)])) d))
theorem yy {p0 p1:Value} {w:World} {R:Ending->World->Prop} (h:vi p0 p1 w R):Calls Tryz.prog 49 #[p0,p1] w R:=
  aL (.seq none .leaf (.seq none .leaf (.seq none .leaf (.seq none .leaf (.seq (some [8,7]) (.one (.loop [8,7] .leaf)) .leaf))))) [p0,p1] bf Tryz.func49 (by kernel_rfl) (by kernel_rfl) h


/- loop.example/prologserver/spec.ProgramValid : function 50 -/
def j1 (p0:Value) (w:World) (R:Ending->World->Prop):Prop:=
 (∃ (a:Value->World->Prop) (b:Value->World->Nat),a (.int .i64 0) w/\
 ∀ c _ _ _ _ _ _ _ _ _ _ _ _ _ _ _ _ _:Value,∀ d:World,a c d->
 (∃ e:Value->World->Prop,(
 RR (aq .len #[32] 3 [false] [p0]) d fun a b=>
 RR (ar .lss 3 false false c a) b fun a b=>
 ah a true (
 RR (ar .leq 3 false true c (.int .i64 20)) b fun b c=>
 RR (sOp (.pick (.const a) (.const b) (.const (.bool false))) 4) c fun a b=>
 e a b) (
 RR (sOp (.pick (.const a) (.const undef) (.const (.bool false))) 4) b fun a b=>
 e a b))/\
 ∀ f _ _ _ _ _ _ _:Value,∀ g:World,e f g->
 CondV f (
 RR (sOp (.indexAddr 32 (.const p0) (.const c)) 0) g fun e f=>
 RR (sOp (.load 39 (.const e)) 39) f fun e f=>
 RR (aJ (.func (.func 96) #[] #[]) [e]) f fun e f=>
 RR (sOp (.unOp .not 4 (.const e)) 4) f fun e f=>
 CondV e (
 R (.returned (.bool false)) f) (
 RR (ar .add 3 false true c (.int .i64 1)) f fun e f=>
 a e f/\b e f<b c d)) (
 RR (aq .len #[32] 3 [false] [p0]) g fun a b=>
 RR (ar .leq 3 false true a (.int .i64 20)) b fun a b=>
 R (.returned a) b)))
theorem oW {p0:Value} {w:World} {R:Ending->World->Prop} (h:j1 p0 w R):Calls Tryz.prog 50 #[p0] w R:=
  aL (.seq none .leaf (.seq none (.seq none .leaf (.one (.loop [3] (.seq none (.seq (some [11]) .leaf .leaf) .leaf)))) .leaf)) [p0] bf Tryz.func50 (by kernel_rfl) (by kernel_rfl) h


/- loop.example/prologserver/spec.l16Clause : function 51 -/
def nq (p0:Value) (w:World) (R:Ending->World->Prop):Prop:=
 RR (sOp (.box 39 (.const p0)) 0) w fun a b=>
 (∃ c:Value->World->Prop,(
 RR (sOp (.fieldAddr 39 (.const a) 0) 0) b fun b d=>
 RR (sOp (.load 25 (.const b)) 25) d fun b d=>
 RR (aJ (.func (.func 97) #[] #[]) [b]) d fun b d=>
 RR (sOp (.unOp .not 4 (.const b)) 4) d fun b d=>
 ah b false (
 RR (sOp (.fieldAddr 39 (.const a) 1) 0) d fun a d=>
 RR (sOp (.load 23 (.const a)) 23) d fun a d=>
 RR (aq .len #[23] 3 [false] [a]) d fun a d=>
 RR (ar .gtr 3 false true a (.int .i64 3)) d fun a d=>
 RR (sOp (.pick (.const b) (.const (.bool true)) (.const a)) 4) d fun a b=>
 c a b) (
 RR (sOp (.pick (.const b) (.const (.bool true)) (.const undef)) 4) d fun a b=>
 c a b))/\
 ∀ b _ _ _ _ _ _ _ _ _:Value,∀ d:World,c b d->
 CondV b (
 R (.returned (.bool false)) d) (
 RR (aS 71 0 []) d fun b c=>
 (∃ (d:Value->Value->World->Prop) (e:Value->Value->World->Nat),d (.int .i64 0) b c/\
 ∀ b _ _ c _ _ _ _ _ _ _ _ _ _ _ _ _ _ _ _ _ _ _ _:Value,∀ f:World,d b c f->
 RR (sOp (.fieldAddr 39 (.const a) 1) 0) f fun g h=>
 RR (sOp (.load 23 (.const g)) 23) h fun g h=>
 RR (aq .len #[23] 3 [false] [g]) h fun g h=>
 RR (ar .lss 3 false false b g) h fun g h=>
 CondV g (
 RR (sOp (.fieldAddr 39 (.const a) 1) 0) h fun g h=>
 RR (sOp (.load 23 (.const g)) 23) h fun g h=>
 RR (sOp (.indexAddr 23 (.const g) (.const b)) 0) h fun g h=>
 RR (sOp (.load 25 (.const g)) 25) h fun g h=>
 RR (aJ (.func (.func 97) #[] #[]) [g]) h fun g h=>
 RR (sOp (.unOp .not 4 (.const g)) 4) h fun g h=>
 CondV g (
 R (.returned (.bool false)) h) (
 RR (sOp (.fieldAddr 39 (.const a) 1) 0) h fun a g=>
 RR (sOp (.load 23 (.const a)) 23) g fun a g=>
 RR (sOp (.indexAddr 23 (.const a) (.const b)) 0) g fun a g=>
 RR (sOp (.load 25 (.const a)) 25) g fun a g=>
 RR (aJ (.func (.func 98) #[] #[]) [c,a]) g fun a g=>
 RR (ar .add 3 false true b (.int .i64 1)) g fun g h=>
 d g a h/\e g a h<e b c f)) (
 RR (sOp (.fieldAddr 39 (.const a) 0) 0) h fun a b=>
 RR (sOp (.load 25 (.const a)) 25) b fun a b=>
 RR (aJ (.func (.func 98) #[] #[]) [(Value.slice none 0 0),a]) b fun a b=>
 (∃ (d:Value->World->Prop) (e:Value->World->Nat),d (.int .i64 0) b/\
 ∀ b _ _ _ _ _ _ _ _ _ _ _ _ _ _:Value,∀ f:World,d b f->
 RR (aq .len #[71] 3 [false] [a]) f fun g h=>
 RR (ar .lss 3 false false b g) h fun g h=>
 CondV g (
 RR (sOp (.indexAddr 71 (.const a) (.const b)) 0) h fun a g=>
 RR (sOp (.load 3 (.const a)) 3) g fun a g=>
 RR (aJ (.func (.func 99) #[] #[]) [c,a]) g fun a c=>
 RR (sOp (.unOp .not 4 (.const a)) 4) c fun a c=>
 CondV a (
 R (.returned (.bool false)) c) (
 RR (ar .add 3 false true b (.int .i64 1)) c fun a c=>
 d a c/\e a c<e b f)) (
 R (.returned (.bool true)) h))))))
theorem sT {p0:Value} {w:World} {R:Ending->World->Prop} (h:nq p0 w R):Calls Tryz.prog 51 #[p0] w R:=
  aL (.seq none .leaf (.seq none (.seq (some [16]) .leaf .leaf) (.seq none .leaf (.seq none (.seq none .leaf (.one (.loop [4,3] .leaf))) (.seq none .leaf (.seq none (.seq none .leaf (.one (.loop [6] .leaf))) .leaf)))))) [p0] bf Tryz.func51 (by kernel_rfl) (by kernel_rfl) h


/- loop.example/prologserver/spec.l16Stage : function 52 -/
def pY (p0 p1:Value) (w:World) (R:Ending->World->Prop):Prop:=
 RR (aS 23 0 []) w fun a b=>
 (∃ (c:Value->Value->World->Prop) (d:Value->Value->World->Nat),c (.int .i64 0) a b/\
 ∀ a _ _ b _ _ _ _ _ _ _ _ _ _ _ _ _ _ _ _ _ _ _ _ _ _:Value,∀ e:World,c a b e->
 RR (ar .lss 3 false false a p1) e fun f g=>
 CondV f (
 RR (aJ (.func (.func 100) #[] #[]) [p0,b]) g fun f g=>
 (∃ h:Value->World->Prop,(
 RR (aq .len #[23] 3 [false] [f]) g fun a c=>
 RR (aq .len #[23] 3 [false] [b]) c fun c d=>
 RR (ar .eql 3 false false a c) d fun a c=>
 ah a false (
 RR (aq .len #[23] 3 [false] [b]) c fun b c=>
 RR (ar .gtr 3 false true b (.int .i64 60)) c fun b c=>
 RR (sOp (.pick (.const a) (.const (.bool true)) (.const b)) 4) c fun a b=>
 h a b) (
 RR (sOp (.pick (.const a) (.const (.bool true)) (.const undef)) 4) c fun a b=>
 h a b))/\
 ∀ g _ _ _ _ _ _ _ _ _:Value,∀ i:World,h g i->
 CondV g (
 R (.returned (.tuple #[b,a])) i) (
 RR (ar .add 3 false true a (.int .i64 1)) i fun g h=>
 c g f h/\d g f h<d a b e))) (
 R (.returned (.tuple #[b,p1])) g))
theorem ud {p0 p1:Value} {w:World} {R:Ending->World->Prop} (h:pY p0 p1 w R):Calls Tryz.prog 52 #[p0,p1] w R:=
  aL (.seq none .leaf (.seq none .leaf (.seq none (.seq none .leaf (.one (.loop [7,6] (.seq none .leaf (.seq none (.one (.seq none .leaf (.seq none (.seq (some [27]) .leaf .leaf) .leaf))) .leaf))))) .leaf))) [p0,p1] bf Tryz.func52 (by kernel_rfl) (by kernel_rfl) h


/- loop.example/prologserver/impl.isPlain : function 54 -/
def qX (p0:Value) (w:World) (R:Ending->World->Prop):Prop:=
 RR (sOp (.box 25 (.const p0)) 0) w fun a b=>
 RR (sOp (.fieldAddr 25 (.const a) 0) 0) b fun b c=>
 RR (sOp (.load 3 (.const b)) 3) c fun b c=>
 RR (ar .eql 3 false true b (.int .i64 3)) c fun b c=>
 ((fun d:VW=>ah b true (
 RR (sOp (.fieldAddr 25 (.const a) 2) 0) c fun a c=>
 RR (sOp (.load 9 (.const a)) 9) c fun a c=>
 RR (aJ (.func (.func 101) #[] #[]) [a]) c fun a c=>
 RR (sOp (.pick (.const b) (.const a) (.const (.bool false))) 4) c fun a b=>d a b) (
 RR (sOp (.pick (.const b) (.const undef) (.const (.bool false))) 4) c fun a b=>d a b)) fun b c=>
 ((fun d:VW=>ah b true (
 RR (sOp (.fieldAddr 25 (.const a) 2) 0) c fun a c=>
 RR (sOp (.load 9 (.const a)) 9) c fun a c=>
 RR (aJ (.func (.func 102) #[] #[]) [a]) c fun a c=>
 RR (sOp (.unOp .not 4 (.const a)) 4) c fun a c=>
 RR (sOp (.pick (.const b) (.const a) (.const (.bool false))) 4) c fun a b=>d a b) (
 RR (sOp (.pick (.const b) (.const undef) (.const (.bool false))) 4) c fun a b=>d a b)) fun b c=>
 ah b true (
 RR (sOp (.load 25 (.const a)) 25) c fun a c=>
 RR (aJ (.func (.func 103) #[] #[]) [a]) c fun a c=>
 RR (sOp (.unOp .not 4 (.const a)) 4) c fun a c=>
 RR (sOp (.pick (.const b) (.const a) (.const (.bool false))) 4) c fun a b=>
 R (.returned a) b) (
 RR (sOp (.pick (.const b) (.const undef) (.const (.bool false))) 4) c fun a b=>
 R (.returned a) b)))
theorem wx {p0:Value} {w:World} {R:Ending->World->Prop} (h:qX p0 w R):Calls Tryz.prog 54 #[p0] w R:=
  aL .leaf [p0] bf Tryz.func54 (by kernel_rfl) (by kernel_rfl) h


/- slices.Contains[[]string,string] : function 55 -/
def iI (p0 p1:Value) (w:World) (R:Ending->World->Prop):Prop:=
 RR (aJ (.func (.func 104) #[] #[]) [p0,p1]) w fun a b=>
 RR (ar .geq 3 false true a (.int .i64 0)) b fun a b=>
 R (.returned a) b
theorem lN {p0 p1:Value} {w:World} {R:Ending->World->Prop} (h:iI p0 p1 w R):Calls Tryz.prog 55 #[p0,p1] w R:=
  aL .leaf [p0,p1] bf Tryz.func55 (by kernel_rfl) (by kernel_rfl) h


/- slices.ContainsFunc[[]loop.example/prologserver/impl.Term,loop.example/prologserver/impl.Term] : function 57 -/
def gQ (p0 p1:Value) (w:World) (R:Ending->World->Prop):Prop:=
 RR (aJ (.func (.func 82) #[] #[]) [p0,p1]) w fun a b=>
 RR (ar .geq 3 false true a (.int .i64 0)) b fun a b=>
 R (.returned a) b
theorem jT {p0 p1:Value} {w:World} {R:Ending->World->Prop} (h:gQ p0 p1 w R):Calls Tryz.prog 57 #[p0,p1] w R:=
  aL .leaf [p0,p1] bf Tryz.func57 (by kernel_rfl) (by kernel_rfl) h


/- loop.example/prologserver/impl.ProgramValid$1 : function 58 -/
def iU (p0:Value) (w:World) (R:Ending->World->Prop):Prop:=
 RR (sOp (.box 39 (.const p0)) 0) w fun a b=>
 RR (sOp (.load 39 (.const a)) 39) b fun a b=>
 RR (aJ (.func (.func 59) #[] #[]) [a]) b fun a b=>
 RR (sOp (.unOp .not 4 (.const a)) 4) b fun a b=>
 R (.returned a) b
theorem l4 {p0:Value} {w:World} {R:Ending->World->Prop} (h:iU p0 w R):Calls Tryz.prog 58 #[p0] w R:=
  aL .leaf [p0] bf Tryz.func58 (by kernel_rfl) (by kernel_rfl) h


/- loop.example/prologserver/impl.ClauseValid : function 59 -/
def lG (p0:Value) (w:World) (R:Ending->World->Prop):Prop:=
 RR (sOp (.box 39 (.const p0)) 0) w fun a b=>
 RR (sOp (.fieldAddr 39 (.const a) 0) 0) b fun b c=>
 RR (sOp (.load 25 (.const b)) 25) c fun b c=>
 RR (aJ (.func (.func 43) #[] #[]) [b]) c fun b c=>
 ((fun d:VW=>ah b true (
 RR (sOp (.fieldAddr 39 (.const a) 0) 0) c fun a c=>
 RR (sOp (.load 25 (.const a)) 25) c fun a c=>
 RR (aJ (.func (.func 54) #[] #[]) [a]) c fun a c=>
 RR (sOp (.pick (.const b) (.const a) (.const (.bool false))) 4) c fun a b=>d a b) (
 RR (sOp (.pick (.const b) (.const undef) (.const (.bool false))) 4) c fun a b=>d a b)) fun b c=>
 ah b true (
 RR (sOp (.fieldAddr 39 (.const a) 1) 0) c fun a c=>
 RR (sOp (.load 23 (.const a)) 23) c fun a c=>
 RR (aJ (.func (.func 105) #[] #[]) [a]) c fun a c=>
 RR (sOp (.pick (.const b) (.const a) (.const (.bool false))) 4) c fun a b=>
 R (.returned a) b) (
 RR (sOp (.pick (.const b) (.const undef) (.const (.bool false))) 4) c fun a b=>
 R (.returned a) b))
theorem o8 {p0:Value} {w:World} {R:Ending->World->Prop} (h:lG p0 w R):Calls Tryz.prog 59 #[p0] w R:=
  aL .leaf [p0] bf Tryz.func59 (by kernel_rfl) (by kernel_rfl) h


/- loop.example/prologserver/spec.l4MutateAll : function 60 -/
def lP (p0 p1:Value) (w:World) (R:Ending->World->Prop):Prop:=
 RR (aS 32 0 []) w fun a b=>
 (∃ (c:Value->Value->World->Prop) (d:Value->Value->World->Nat),c (.int .i64 0) a b/\
 ∀ a _ _ b _ _ _ _ _ _ _ _ _ _ _ _ _:Value,∀ e:World,c a b e->
 RR (aq .len #[32] 3 [false] [p1]) e fun f g=>
 RR (ar .lss 3 false false a f) g fun f g=>
 CondV f (
 RR (sOp (.indexAddr 32 (.const p1) (.const a)) 0) g fun f g=>
 RR (sOp (.load 39 (.const f)) 39) g fun f g=>
 RR (aJ (.func (.func 106) #[] #[]) [p0,f]) g fun f g=>
 RR (aS 32 1 [(0,f)]) g fun f g=>
 RR (aq .append #[32,32] 32 [false,false] [b,f]) g fun f g=>
 RR (ar .add 3 false true a (.int .i64 1)) g fun g h=>
 c g f h/\d g f h<d a b e) (
 (∃ a:Value->World->Prop,(
 RR (aJ (.func (.func 69) #[] #[]) [p0,(.int .i64 30)]) g fun c d=>
 RR (ar .eql 3 false true c (.int .i64 0)) d fun d e=>
 CondV d (
 (∃ (c:Value->World->Prop) (d:Value->World->Nat),c b e/\
 ∀ b _ _ _ _ _ _ _ _:Value,∀ e:World,c b e->
 RR (aq .len #[32] 3 [false] [b]) e fun f g=>
 RR (ar .leq 3 false true f (.int .i64 20)) g fun f g=>
 CondV f (
 RR (aJ (.func (.func 78) #[] #[]) [(.string ⟨#[122]⟩),(Value.slice none 0 0)]) g fun a f=>
 RR (dD 39 [(0,a)]) f fun a f=>
 RR (aS 32 1 [(0,a)]) f fun a f=>
 RR (aq .append #[32,32] 32 [false,false] [b,a]) f fun a f=>
 c a f/\d a f<d b e) (
 a b g))) (
 RR (ar .eql 3 false true c (.int .i64 1)) e fun c d=>
 CondV c (
 RR (sOp (.slice 32 (.const b) (some (.const (.int .i64 1))) none none) 32) d fun b c=>
 a b c) (
 a b d)))/\
 ∀ _ _ _ _ b _ _ _ _ _ _ _ _ _ _ _ _:Value,∀ c:World,a b c->
 R (.returned b) c)))
theorem pp {p0 p1:Value} {w:World} {R:Ending->World->Prop} (h:lP p0 p1 w R):Calls Tryz.prog 60 #[p0,p1] w R:=
  aL (.seq none .leaf (.seq none .leaf (.seq none (.seq none .leaf (.one (.loop [6,5] .leaf))) (.seq (some [5]) (.seq none .leaf (.one (.seq none .leaf (.two (.one (.loop [5] .leaf)) .leaf)))) .leaf)))) [p0,p1] bf Tryz.func60 (by kernel_rfl) (by kernel_rfl) h


/- (*loop.example/prologserver/spec.l18Rd).num : function 61 -/
def ot (p0 p1:Value) (w:World) (R:Ending->World->Prop):Prop:=
 RR (aq .len #[71] 3 [false] [p1]) w fun a b=>
 RR (aJ (.func (.func 69) #[] #[]) [p0,a]) b fun a b=>
 RR (sOp (.indexAddr 71 (.const p1) (.const a)) 0) b fun a b=>
 RR (sOp (.load 3 (.const a)) 3) b fun a b=>
 R (.returned a) b
theorem r2 {p0 p1:Value} {w:World} {R:Ending->World->Prop} (h:ot p0 p1 w R):Calls Tryz.prog 61 #[p0,p1] w R:=
  aL .leaf [p0,p1] bf Tryz.func61 (by kernel_rfl) (by kernel_rfl) h


/- loop.example/prologserver/spec.l16Copy : function 62 -/
def rv (p0:Value) (w:World) (R:Ending->World->Prop):Prop:=
 RR (aS 23 0 []) w fun a b=>
 (∃ (c:Value->Value->World->Prop) (d:Value->Value->World->Nat),c (.int .i64 0) a b/\
 ∀ a _ _ b _ _ _ _ _ _ _ _ _ _ _ _:Value,∀ e:World,c a b e->
 RR (aq .len #[23] 3 [false] [p0]) e fun f g=>
 RR (ar .lss 3 false false a f) g fun f g=>
 CondV f (
 RR (sOp (.indexAddr 23 (.const p0) (.const a)) 0) g fun f g=>
 RR (sOp (.load 25 (.const f)) 25) g fun f g=>
 RR (aJ (.func (.func 42) #[] #[]) [f]) g fun f g=>
 RR (aS 23 1 [(0,f)]) g fun f g=>
 RR (aq .append #[23,23] 23 [false,false] [b,f]) g fun f g=>
 RR (ar .add 3 false true a (.int .i64 1)) g fun g h=>
 c g f h/\d g f h<d a b e) (
 R (.returned b) g))
theorem xB {p0:Value} {w:World} {R:Ending->World->Prop} (h:rv p0 w R):Calls Tryz.prog 62 #[p0] w R:=
  aL (.seq none .leaf (.seq none .leaf (.seq none (.seq none .leaf (.one (.loop [4,3] .leaf))) .leaf))) [p0] bf Tryz.func62 (by kernel_rfl) (by kernel_rfl) h


/- loop.example/prologserver/impl.compare : function 63 -/
def r3 (p0 p1:Value) (w:World) (R:Ending->World->Prop):Prop:=
 RR (sOp (.box 25 (.const p0)) 0) w fun a b=>
 RR (sOp (.box 25 (.const p1)) 0) b fun b c=>
 (∃ d:(Nat->Bool)->Value->Value->Value->Value->Value->Value->Value->Value->Value->Value->Value->Value->Value->Value->Value->Value->Value->Value->Value->Value->Value->Value->Value->Value->Value->Value->Value->Value->Value->Value->World->Prop,d (fun _=>false) (.int .i64 0) undef undef undef undef undef undef undef undef undef undef undef undef undef undef undef undef undef undef undef undef undef undef undef undef undef undef undef undef undef { c with drawn:=c.drawn+1 }/\(
 (∀ b:Nat->Bool,b 0=false->∀ c e f g h i j k l m n o p q r s t u v x y z A B C D E F G H I,d b c e f g h i j k l m n o p q r s t u v x y z A B C D E F G H I->
 RR (sOp (.load 25 (.const a)) 25) I fun a H=>
 d (aw b 0) c e f g h i j k l m n o p q r s t u v x y z A B C D E F G a H)/\
 (∀ a:Nat->Bool,a 1=false->a 0=true->∀ b c e f g h i j k l m n o p q r s t u v x y z A B C D E F G H,d a b c e f g h i j k l m n o p q r s t u v x y z A B C D E F G H->
 RR (aJ (.func (.func 109) #[] #[]) [G]) H fun F H=>
 d (aw a 1) b c e f g h i j k l m n o p q r s t u v x y z A B C D E F G H)/\
 (∀ a:Nat->Bool,a 2=false->∀ c e f g h i j k l m n o p q r s t u v x y z A B C D E F G H I,d a c e f g h i j k l m n o p q r s t u v x y z A B C D E F G H I->
 RR (sOp (.load 25 (.const b)) 25) I fun b F=>
 d (aw a 2) c e f g h i j k l m n o p q r s t u v x y z A B C D E b G H F)/\
 (∀ a:Nat->Bool,a 3=false->a 2=true->a 1=true->∀ b c e f g h i j k l m n o p q r s t u v x y z A B C D E F G H,d a b c e f g h i j k l m n o p q r s t u v x y z A B C D E F G H->
 RR (aJ (.func (.func 109) #[] #[]) [E]) H fun D H=>
 d (aw a 3) b c e f g h i j k l m n o p q r s t u v x y z A B C D E F G H)/\
 (∀ a:Nat->Bool,a 4=false->a 1=true->a 3=true->a 3=true->∀ b c e f g h i j k l m n o p q r s t u v x y z A B C D E F G H,d a b c e f g h i j k l m n o p q r s t u v x y z A B C D E F G H->
 RR (aJ (.func (.func 108) #[] #[]) [F,D]) H fun C H=>
 d (aw a 4) b c e f g h i j k l m n o p q r s t u v x y z A B C D E F G H)/\
 (∀ b:Nat->Bool,b 5=false->∀ c e f g h i j k l m n o p q r s t u v x y z A B C D E F G H I,d b c e f g h i j k l m n o p q r s t u v x y z A B C D E F G H I->
 RR (sOp (.fieldAddr 25 (.const a) 1) 0) I fun a C=>
 d (aw b 5) c e f g h i j k l m n o p q r s t u v x y z A B a D E F G H C)/\
 (∀ a:Nat->Bool,a 6=false->a 5=true->∀ b c e f g h i j k l m n o p q r s t u v x y z A B C D E F G H,d a b c e f g h i j k l m n o p q r s t u v x y z A B C D E F G H->
 RR (sOp (.load 3 (.const B)) 3) H fun A H=>
 d (aw a 6) b c e f g h i j k l m n o p q r s t u v x y z A B C D E F G H)/\
 (∀ a:Nat->Bool,a 7=false->∀ c e f g h i j k l m n o p q r s t u v x y z A B C D E F G H I,d a c e f g h i j k l m n o p q r s t u v x y z A B C D E F G H I->
 RR (sOp (.fieldAddr 25 (.const b) 1) 0) I fun b A=>
 d (aw a 7) c e f g h i j k l m n o p q r s t u v x y z b B C D E F G H A)/\
 (∀ a:Nat->Bool,a 8=false->a 7=true->∀ b c e f g h i j k l m n o p q r s t u v x y z A B C D E F G H,d a b c e f g h i j k l m n o p q r s t u v x y z A B C D E F G H->
 RR (sOp (.load 3 (.const z)) 3) H fun y H=>
 d (aw a 8) b c e f g h i j k l m n o p q r s t u v x y z A B C D E F G H)/\
 (∀ a:Nat->Bool,a 9=false->a 6=true->a 8=true->a 4=true->∀ b c e f g h i j k l m n o p q r s t u v x y z A B C D E F G H,d a b c e f g h i j k l m n o p q r s t u v x y z A B C D E F G H->
 RR (aJ (.func (.func 108) #[] #[]) [A,y]) H fun x H=>
 d (aw a 9) b c e f g h i j k l m n o p q r s t u v x y z A B C D E F G H)/\
 (∀ b:Nat->Bool,b 10=false->∀ c e f g h i j k l m n o p q r s t u v x y z A B C D E F G H I,d b c e f g h i j k l m n o p q r s t u v x y z A B C D E F G H I->
 RR (sOp (.fieldAddr 25 (.const a) 3) 0) I fun a x=>
 d (aw b 10) c e f g h i j k l m n o p q r s t u v a y z A B C D E F G H x)/\
 (∀ a:Nat->Bool,a 11=false->a 10=true->∀ b c e f g h i j k l m n o p q r s t u v x y z A B C D E F G H,d a b c e f g h i j k l m n o p q r s t u v x y z A B C D E F G H->
 RR (sOp (.load 23 (.const v)) 23) H fun u H=>
 d (aw a 11) b c e f g h i j k l m n o p q r s t u v x y z A B C D E F G H)/\
 (∀ a:Nat->Bool,a 12=false->a 11=true->∀ b c e f g h i j k l m n o p q r s t u v x y z A B C D E F G H,d a b c e f g h i j k l m n o p q r s t u v x y z A B C D E F G H->
 RR (aq .len #[23] 3 [false] [u]) H fun t H=>
 d (aw a 12) b c e f g h i j k l m n o p q r s t u v x y z A B C D E F G H)/\
 (∀ a:Nat->Bool,a 13=false->∀ c e f g h i j k l m n o p q r s t u v x y z A B C D E F G H I,d a c e f g h i j k l m n o p q r s t u v x y z A B C D E F G H I->
 RR (sOp (.fieldAddr 25 (.const b) 3) 0) I fun b t=>
 d (aw a 13) c e f g h i j k l m n o p q r s b u v x y z A B C D E F G H t)/\
 (∀ a:Nat->Bool,a 14=false->a 13=true->∀ b c e f g h i j k l m n o p q r s t u v x y z A B C D E F G H,d a b c e f g h i j k l m n o p q r s t u v x y z A B C D E F G H->
 RR (sOp (.load 23 (.const s)) 23) H fun r H=>
 d (aw a 14) b c e f g h i j k l m n o p q r s t u v x y z A B C D E F G H)/\
 (∀ a:Nat->Bool,a 15=false->a 14=true->∀ b c e f g h i j k l m n o p q r s t u v x y z A B C D E F G H,d a b c e f g h i j k l m n o p q r s t u v x y z A B C D E F G H->
 RR (aq .len #[23] 3 [false] [r]) H fun q H=>
 d (aw a 15) b c e f g h i j k l m n o p q r s t u v x y z A B C D E F G H)/\
 (∀ a:Nat->Bool,a 16=false->a 12=true->a 15=true->a 9=true->∀ b c e f g h i j k l m n o p q r s t u v x y z A B C D E F G H,d a b c e f g h i j k l m n o p q r s t u v x y z A B C D E F G H->
 RR (aJ (.func (.func 108) #[] #[]) [t,q]) H fun p H=>
 d (aw a 16) b c e f g h i j k l m n o p q r s t u v x y z A B C D E F G H)/\
 (∀ b:Nat->Bool,b 17=false->∀ c e f g h i j k l m n o p q r s t u v x y z A B C D E F G H I,d b c e f g h i j k l m n o p q r s t u v x y z A B C D E F G H I->
 RR (sOp (.fieldAddr 25 (.const a) 2) 0) I fun a p=>
 d (aw b 17) c e f g h i j k l m n o a q r s t u v x y z A B C D E F G H p)/\
 (∀ a:Nat->Bool,a 18=false->a 17=true->∀ b c e f g h i j k l m n o p q r s t u v x y z A B C D E F G H,d a b c e f g h i j k l m n o p q r s t u v x y z A B C D E F G H->
 RR (sOp (.load 9 (.const o)) 9) H fun n H=>
 d (aw a 18) b c e f g h i j k l m n o p q r s t u v x y z A B C D E F G H)/\
 (∀ a:Nat->Bool,a 19=false->∀ c e f g h i j k l m n o p q r s t u v x y z A B C D E F G H I,d a c e f g h i j k l m n o p q r s t u v x y z A B C D E F G H I->
 RR (sOp (.fieldAddr 25 (.const b) 2) 0) I fun b n=>
 d (aw a 19) c e f g h i j k l m b o p q r s t u v x y z A B C D E F G H n)/\
 (∀ a:Nat->Bool,a 20=false->a 19=true->∀ b c e f g h i j k l m n o p q r s t u v x y z A B C D E F G H,d a b c e f g h i j k l m n o p q r s t u v x y z A B C D E F G H->
 RR (sOp (.load 9 (.const m)) 9) H fun l H=>
 d (aw a 20) b c e f g h i j k l m n o p q r s t u v x y z A B C D E F G H)/\
 (∀ a:Nat->Bool,a 21=false->a 18=true->a 20=true->a 16=true->∀ b c e f g h i j k l m n o p q r s t u v x y z A B C D E F G H,d a b c e f g h i j k l m n o p q r s t u v x y z A B C D E F G H->
 RR (aJ (.func (.func 110) #[] #[]) [n,l]) H fun k H=>
 d (aw a 21) b c e f g h i j k l m n o p q r s t u v x y z A B C D E F G H)/\
 (∀ b:Nat->Bool,b 22=false->∀ c e f g h i j k l m n o p q r s t u v x y z A B C D E F G H I,d b c e f g h i j k l m n o p q r s t u v x y z A B C D E F G H I->
 RR (sOp (.fieldAddr 25 (.const a) 3) 0) I fun a k=>
 d (aw b 22) c e f g h i j a l m n o p q r s t u v x y z A B C D E F G H k)/\
 (∀ a:Nat->Bool,a 23=false->a 22=true->∀ b c e f g h i j k l m n o p q r s t u v x y z A B C D E F G H,d a b c e f g h i j k l m n o p q r s t u v x y z A B C D E F G H->
 RR (sOp (.load 23 (.const j)) 23) H fun i H=>
 d (aw a 23) b c e f g h i j k l m n o p q r s t u v x y z A B C D E F G H)/\
 (∀ a:Nat->Bool,a 24=false->∀ c e f g h i j k l m n o p q r s t u v x y z A B C D E F G H I,d a c e f g h i j k l m n o p q r s t u v x y z A B C D E F G H I->
 RR (sOp (.fieldAddr 25 (.const b) 3) 0) I fun b i=>
 d (aw a 24) c e f g h b j k l m n o p q r s t u v x y z A B C D E F G H i)/\
 (∀ a:Nat->Bool,a 25=false->a 24=true->∀ b c e f g h i j k l m n o p q r s t u v x y z A B C D E F G H,d a b c e f g h i j k l m n o p q r s t u v x y z A B C D E F G H->
 RR (sOp (.load 23 (.const h)) 23) H fun g H=>
 d (aw a 25) b c e f g h i j k l m n o p q r s t u v x y z A B C D E F G H)/\
 (∀ a:Nat->Bool,a 26=false->a 23=true->a 25=true->a 21=true->∀ b c e f g h i j k l m n o p q r s t u v x y z A B C D E F G H,d a b c e f g h i j k l m n o p q r s t u v x y z A B C D E F G H->
 RR (aJ (.func (.func 111) #[] #[]) [i,g,(.func (.func 63) #[] #[])]) H fun f H=>
 d (aw a 26) b c e f g h i j k l m n o p q r s t u v x y z A B C D E F G H)/\
 (∀ a:Nat->Bool,a 27=false->a 4=true->a 9=true->a 16=true->a 21=true->a 26=true->∀ b c e f g h i j k l m n o p q r s t u v x y z A B C D E F G H,d a b c e f g h i j k l m n o p q r s t u v x y z A B C D E F G H->
 RR (aS 71 5 [(0,C),(1,x),(2,p),(3,k),(4,f)]) H fun e H=>
 d (aw a 27) b c e f g h i j k l m n o p q r s t u v x y z A B C D E F G H)/\
 (∀ a:Nat->Bool,a 28=false->a 27=true->a 26=true->∀ b c e f g h i j k l m n o p q r s t u v x y z A B C D E F G H,d a b c e f g h i j k l m n o p q r s t u v x y z A B C D E F G H->
 RR (aJ (.func (.func 107) #[] #[]) [e]) H fun c H=>
 d (aw a 28) b c e f g h i j k l m n o p q r s t u v x y z A B C D E F G H)/\
 (∀ a:Nat->Bool,a 29=false->a 28=true->a 28=true->a 0=true->a 1=true->a 2=true->a 3=true->a 4=true->a 5=true->a 6=true->a 7=true->a 8=true->a 9=true->a 10=true->a 11=true->a 12=true->a 13=true->a 14=true->a 15=true->a 16=true->a 17=true->a 18=true->a 19=true->a 20=true->a 21=true->a 22=true->a 23=true->a 24=true->a 25=true->a 26=true->a 27=true->a 28=true->∀ b c e f g h i j k l m n o p q r s t u v x y z A B C D E F G H,d a b c e f g h i j k l m n o p q r s t u v x y z A B C D E F G H->
 d (aw a 29) c c e f g h i j k l m n o p q r s t u v x y z A B C D E F G H)/\
 True)/\
 ∀ a:Nat->Bool,a 29=true->a 28=true->a 27=true->a 26=true->a 25=true->a 24=true->a 23=true->a 22=true->a 21=true->a 20=true->a 19=true->a 18=true->a 17=true->a 16=true->a 15=true->a 14=true->a 13=true->a 12=true->a 11=true->a 10=true->a 9=true->a 8=true->a 7=true->a 6=true->a 5=true->a 4=true->a 3=true->a 2=true->a 1=true->a 0=true->∀ b c e f g h i j k l m n o p q r s t u v x y z A B C D E F G H,d a b c e f g h i j k l m n o p q r s t u v x y z A B C D E F G H->
 R (.returned b) H)
theorem xy {p0 p1:Value} {w:World} {R:Ending->World->Prop} (h:r3 p0 p1 w R):Calls Tryz.prog 63 #[p0,p1] w R:=
  aL .leaf [p0,p1] bf Tryz.func63 (by kernel_rfl) (by kernel_rfl) h


/- loop.example/prologserver/impl.follows : function 66 -/
def l9 (p0 p1 p2 p3 p4:Value) (w:World) (R:Ending->World->Prop):Prop:=
 RR (sOp (.box 39 (.const p0)) 0) w fun a b=>
 RR (sOp (.box 59 (.const p3)) 0) b fun b c=>
 RR (sOp (.fieldAddr 39 (.const a) 1) 0) c fun c d=>
 RR (sOp (.load 23 (.const c)) 23) d fun c d=>
 RR (aq .len #[23] 3 [false] [c]) d fun c d=>
 RR (ar .eql 3 false false p1 c) d fun c d=>
 CondV c (
 RR (sOp (.fieldAddr 39 (.const a) 0) 0) d fun a c=>
 RR (sOp (.load 25 (.const a)) 25) c fun a c=>
 RR (gP (.func 113) [] [b]) c fun b c=>
 RR (aJ (.func (.func 112) #[] #[]) [a,b]) c fun a b=>
 RR (aJ p4 [a]) b fun _ a=>
 R (.returned (.tuple #[])) a) (
 RR (aq .len #[23] 3 [false] [p2]) d fun c d=>
 (∃ (e:Value->World->Prop) (f:Value->World->Nat),e (.int .i64 0) d/\
 ∀ d _ _ _ _ _ _ _ _ g h i j k l m n _ _ _ _ _ _ _:Value,∀ o:World,e d o->
 RR (ar .lss 3 false false d c) o fun c p=>
 CondV c (
 (∃ c:World->Prop,(
 RR (sOp (.indexAddr 23 (.const p2) (.const d)) 0) p fun d e=>
 RR (sOp (.load 25 (.const d)) 25) e fun d e=>
 RR (sOp (.alloc 25) 0) e fun e f=>
 RR (sOp (.store 25 (.const e) (.const d)) 0) f fun _ d=>
 RR (sOp (.load 59 (.const b)) 59) d fun b d=>
 RR (aJ (.func (.func 114) #[] #[]) [b]) d fun b d=>
 (∃ f:(Nat->Bool)->Value->Value->Value->Value->Value->Value->Value->Value->World->Prop,f (fun _=>false) g h i j k l m n { d with drawn:=d.drawn+1 }/\(
 (∀ a:Nat->Bool,a 0=false->∀ b c d g h i j k l,f a b c d g h i j k l->
 RR (sOp (.load 25 (.const e)) 25) l fun e k=>
 f (aw a 0) b c d g h i j e k)/\
 (∀ b:Nat->Bool,b 1=false->∀ c d e g h i j k l,f b c d e g h i j k l->
 RR (sOp (.fieldAddr 39 (.const a) 1) 0) l fun a j=>
 f (aw b 1) c d e g h i a k j)/\
 (∀ a:Nat->Bool,a 2=false->a 1=true->∀ b c d e g h i j k,f a b c d e g h i j k->
 RR (sOp (.load 23 (.const i)) 23) k fun h k=>
 f (aw a 2) b c d e g h i j k)/\
 (∀ a:Nat->Bool,a 3=false->∀ b c d e g h i j k,f a b c d e g h i j k->
 f (aw a 3) b c d e p1 h i j k)/\
 (∀ a:Nat->Bool,a 4=false->a 2=true->a 3=true->∀ b c d e g h i j k,f a b c d e g h i j k->
 RR (sOp (.indexAddr 23 (.const h) (.const g)) 0) k fun e k=>
 f (aw a 4) b c d e g h i j k)/\
 (∀ a:Nat->Bool,a 5=false->a 4=true->∀ b c d e g h i j k,f a b c d e g h i j k->
 RR (sOp (.load 25 (.const e)) 25) k fun d k=>
 f (aw a 5) b c d e g h i j k)/\
 (∀ a:Nat->Bool,a 6=false->∀ c d e g h i j k l,f a c d e g h i j k l->
 f (aw a 6) c b e g h i j k l)/\
 (∀ a:Nat->Bool,a 7=false->a 0=true->a 5=true->a 6=true->∀ b c d e g h i j k,f a b c d e g h i j k->
 RR (aJ (.func (.func 44) #[] #[]) [j,d,c]) k fun b k=>
 f (aw a 7) b c d e g h i j k)/\
 True)/\
 ∀ d:Nat->Bool,d 7=true->d 6=true->d 5=true->d 4=true->d 3=true->d 2=true->d 1=true->d 0=true->∀ e g h i j k l m n,f d e g h i j k l m n->
 CondV e (
 RR (sOp (.load 39 (.const a)) 39) n fun a d=>
 RR (ar .add 3 false true p1 (.int .i64 1)) d fun d e=>
 RR (aJ (.func (.func 66) #[] #[]) [a,d,p2,b,p4]) e fun _ a=>
 c a) (
 c n)))/\
 ∀ _ _ _ _ _ _ _ _ _ _ _ _ _ _ _ _ _ _ _ _ _:Value,∀ a:World,c a->
 RR (ar .add 3 false true d (.int .i64 1)) a fun a b=>
 e a b/\f a b<f d o)) (
 R (.returned (.tuple #[])) p)))
theorem my {p0 p1 p2 p3 p4:Value} {w:World} {R:Ending->World->Prop} (h:l9 p0 p1 p2 p3 p4 w R):Calls Tryz.prog 66 #[p0,p1,p2,p3,p4] w R:=
  aL (.seq none .leaf (.seq none .leaf (.seq none .leaf (.one (.loop [26] (.seq none .leaf (.seq none .leaf (.seq (some []) .leaf .leaf)))))))) [p0,p1,p2,p3,p4] bf Tryz.func66 (by kernel_rfl) (by kernel_rfl) h


/- (*loop.example/prologserver/spec.l18Rd).pick : function 69 -/
def mK (p0 p1:Value) (w:World) (R:Ending->World->Prop):Prop:=
 RR (sOp (.nilCheck (.const p0)) 0) w fun a b=>
 RR (sOp (.fieldAddr 78 (.const a) 1) 0) b fun a b=>
 RR (sOp (.load 3 (.const a)) 3) b fun a b=>
 RR (ar .add 3 false true a (.int .i64 1)) b fun a b=>
 RR (sOp (.nilCheck (.const p0)) 0) b fun b c=>
 RR (sOp (.fieldAddr 78 (.const b) 1) 0) c fun b c=>
 RR (sOp (.store 3 (.const b) (.const a)) 0) c fun _ a=>
 (∃ b:Value->World->Prop,(
 RR (ar .lss 3 false true p1 (.int .i64 1)) a fun a c=>
 ah a false (
 RR (sOp (.nilCheck (.const p0)) 0) c fun c d=>
 RR (sOp (.fieldAddr 78 (.const c) 0) 0) d fun c d=>
 RR (sOp (.load 22 (.const c)) 22) d fun c d=>
 RR (aq .len #[22] 3 [false] [c]) d fun c d=>
 RR (ar .eql 3 false true c (.int .i64 0)) d fun c d=>
 RR (sOp (.pick (.const a) (.const (.bool true)) (.const c)) 4) d fun a c=>
 b a c) (
 RR (sOp (.pick (.const a) (.const (.bool true)) (.const undef)) 4) c fun a c=>
 b a c))/\
 ∀ a _ _ _ _ _ _ _ _ _:Value,∀ c:World,b a c->
 CondV a (
 R (.returned (.int .i64 0)) c) (
 RR (sOp (.nilCheck (.const p0)) 0) c fun a b=>
 RR (sOp (.fieldAddr 78 (.const a) 1) 0) b fun a b=>
 RR (sOp (.load 3 (.const a)) 3) b fun a b=>
 RR (ar .sub 3 false true a (.int .i64 1)) b fun a b=>
 RR (sOp (.nilCheck (.const p0)) 0) b fun b c=>
 RR (sOp (.fieldAddr 78 (.const b) 0) 0) c fun b c=>
 RR (sOp (.load 22 (.const b)) 22) c fun b c=>
 RR (aq .len #[22] 3 [false] [b]) c fun b c=>
 RR (ar .lss 3 false false a b) c fun b c=>
 CondV b (
 RR (sOp (.nilCheck (.const p0)) 0) c fun b c=>
 RR (sOp (.fieldAddr 78 (.const b) 0) 0) c fun b c=>
 RR (sOp (.load 22 (.const b)) 22) c fun b c=>
 RR (sOp (.indexAddr 22 (.const b) (.const a)) 0) c fun a b=>
 RR (sOp (.load 5 (.const a)) 5) b fun a b=>
 RR (sOp (.convert 5 3 (.const a)) 3) b fun a b=>
 RR (ar .rem 3 false false a p1) b fun a b=>
 R (.returned a) b) (
 (∃ b:(Nat->Bool)->Value->Value->Value->Value->Value->Value->Value->Value->Value->Value->Value->Value->Value->Value->Value->Value->Value->Value->Value->Value->Value->Value->Value->Value->Value->Value->Value->Value->Value->Value->Value->Value->Value->Value->Value->Value->Value->Value->Value->Value->Value->Value->Value->Value->Value->Value->World->Prop,b (fun _=>false) undef undef undef undef undef undef undef undef undef undef undef undef undef undef undef undef undef undef undef undef undef undef undef undef undef undef undef undef undef undef undef undef undef undef undef undef undef undef undef undef undef undef undef undef undef undef { c with drawn:=c.drawn+1 }/\(
 (∀ a:Nat->Bool,a 0=false->∀ c d e f g h i j k l m n o p q r s t u v x y z A B C D E F G H I J K L M N O P Q S T U V W X Y,b a c d e f g h i j k l m n o p q r s t u v x y z A B C D E F G H I J K L M N O P Q S T U V W X Y->
 b (aw a 0) c d e f g h i j k l m n o p q r s t u v x y z A B C D E F G H I J K L M N O P Q S T U V W p0 Y)/\
 (∀ a:Nat->Bool,a 1=false->a 0=true->∀ c d e f g h i j k l m n o p q r s t u v x y z A B C D E F G H I J K L M N O P Q S T U V W X Y,b a c d e f g h i j k l m n o p q r s t u v x y z A B C D E F G H I J K L M N O P Q S T U V W X Y->
 RR (sOp (.nilCheck (.const X)) 0) Y fun W Y=>
 b (aw a 1) c d e f g h i j k l m n o p q r s t u v x y z A B C D E F G H I J K L M N O P Q S T U V W X Y)/\
 (∀ a:Nat->Bool,a 2=false->a 1=true->∀ c d e f g h i j k l m n o p q r s t u v x y z A B C D E F G H I J K L M N O P Q S T U V W X Y,b a c d e f g h i j k l m n o p q r s t u v x y z A B C D E F G H I J K L M N O P Q S T U V W X Y->
 RR (sOp (.fieldAddr 78 (.const W) 0) 0) Y fun V Y=>
 b (aw a 2) c d e f g h i j k l m n o p q r s t u v x y z A B C D E F G H I J K L M N O P Q S T U V W X Y)/\
 (∀ a:Nat->Bool,a 3=false->a 2=true->∀ c d e f g h i j k l m n o p q r s t u v x y z A B C D E F G H I J K L M N O P Q S T U V W X Y,b a c d e f g h i j k l m n o p q r s t u v x y z A B C D E F G H I J K L M N O P Q S T U V W X Y->
 RR (sOp (.load 22 (.const V)) 22) Y fun U Y=>
 b (aw a 3) c d e f g h i j k l m n o p q r s t u v x y z A B C D E F G H I J K L M N O P Q S T U V W X Y)/\
 (∀ c:Nat->Bool,c 4=false->∀ d e f g h i j k l m n o p q r s t u v x y z A B C D E F G H I J K L M N O P Q S T U V W X Y Z,b c d e f g h i j k l m n o p q r s t u v x y z A B C D E F G H I J K L M N O P Q S T U V W X Y Z->
 b (aw c 4) d e f g h i j k l m n o p q r s t u v x y z A B C D E F G H I J K L M N O P Q S T a V W X Y Z)/\
 (∀ a:Nat->Bool,a 5=false->∀ c d e f g h i j k l m n o p q r s t u v x y z A B C D E F G H I J K L M N O P Q S T U V W X Y,b a c d e f g h i j k l m n o p q r s t u v x y z A B C D E F G H I J K L M N O P Q S T U V W X Y->
 b (aw a 5) c d e f g h i j k l m n o p q r s t u v x y z A B C D E F G H I J K L M N O P Q p0 T U V W X Y)/\
 (∀ a:Nat->Bool,a 6=false->a 5=true->∀ c d e f g h i j k l m n o p q r s t u v x y z A B C D E F G H I J K L M N O P Q S T U V W X Y,b a c d e f g h i j k l m n o p q r s t u v x y z A B C D E F G H I J K L M N O P Q S T U V W X Y->
 RR (sOp (.nilCheck (.const S)) 0) Y fun Q Y=>
 b (aw a 6) c d e f g h i j k l m n o p q r s t u v x y z A B C D E F G H I J K L M N O P Q S T U V W X Y)/\
 (∀ a:Nat->Bool,a 7=false->a 6=true->∀ c d e f g h i j k l m n o p q r s t u v x y z A B C D E F G H I J K L M N O P Q S T U V W X Y,b a c d e f g h i j k l m n o p q r s t u v x y z A B C D E F G H I J K L M N O P Q S T U V W X Y->
 RR (sOp (.fieldAddr 78 (.const Q) 0) 0) Y fun P Y=>
 b (aw a 7) c d e f g h i j k l m n o p q r s t u v x y z A B C D E F G H I J K L M N O P Q S T U V W X Y)/\
 (∀ a:Nat->Bool,a 8=false->a 7=true->∀ c d e f g h i j k l m n o p q r s t u v x y z A B C D E F G H I J K L M N O P Q S T U V W X Y,b a c d e f g h i j k l m n o p q r s t u v x y z A B C D E F G H I J K L M N O P Q S T U V W X Y->
 RR (sOp (.load 22 (.const P)) 22) Y fun O Y=>
 b (aw a 8) c d e f g h i j k l m n o p q r s t u v x y z A B C D E F G H I J K L M N O P Q S T U V W X Y)/\
 (∀ a:Nat->Bool,a 9=false->a 8=true->∀ c d e f g h i j k l m n o p q r s t u v x y z A B C D E F G H I J K L M N O P Q S T U V W X Y,b a c d e f g h i j k l m n o p q r s t u v x y z A B C D E F G H I J K L M N O P Q S T U V W X Y->
 RR (aq .len #[22] 3 [false] [O]) Y fun N Y=>
 b (aw a 9) c d e f g h i j k l m n o p q r s t u v x y z A B C D E F G H I J K L M N O P Q S T U V W X Y)/\
 (∀ a:Nat->Bool,a 10=false->a 4=true->a 9=true->∀ c d e f g h i j k l m n o p q r s t u v x y z A B C D E F G H I J K L M N O P Q S T U V W X Y,b a c d e f g h i j k l m n o p q r s t u v x y z A B C D E F G H I J K L M N O P Q S T U V W X Y->
 RR (ar .rem 3 false false T N) Y fun M Y=>
 b (aw a 10) c d e f g h i j k l m n o p q r s t u v x y z A B C D E F G H I J K L M N O P Q S T U V W X Y)/\
 (∀ a:Nat->Bool,a 11=false->a 3=true->a 10=true->∀ c d e f g h i j k l m n o p q r s t u v x y z A B C D E F G H I J K L M N O P Q S T U V W X Y,b a c d e f g h i j k l m n o p q r s t u v x y z A B C D E F G H I J K L M N O P Q S T U V W X Y->
 RR (sOp (.indexAddr 22 (.const U) (.const M)) 0) Y fun L Y=>
 b (aw a 11) c d e f g h i j k l m n o p q r s t u v x y z A B C D E F G H I J K L M N O P Q S T U V W X Y)/\
 (∀ a:Nat->Bool,a 12=false->a 11=true->∀ c d e f g h i j k l m n o p q r s t u v x y z A B C D E F G H I J K L M N O P Q S T U V W X Y,b a c d e f g h i j k l m n o p q r s t u v x y z A B C D E F G H I J K L M N O P Q S T U V W X Y->
 RR (sOp (.load 5 (.const L)) 5) Y fun K Y=>
 b (aw a 12) c d e f g h i j k l m n o p q r s t u v x y z A B C D E F G H I J K L M N O P Q S T U V W X Y)/\
 (∀ a:Nat->Bool,a 13=false->a 12=true->∀ c d e f g h i j k l m n o p q r s t u v x y z A B C D E F G H I J K L M N O P Q S T U V W X Y,b a c d e f g h i j k l m n o p q r s t u v x y z A B C D E F G H I J K L M N O P Q S T U V W X Y->
 RR (sOp (.convert 5 3 (.const K)) 3) Y fun J Y=>
 b (aw a 13) c d e f g h i j k l m n o p q r s t u v x y z A B C D E F G H I J K L M N O P Q S T U V W X Y)/\
 (∀ a:Nat->Bool,a 14=false->a 13=true->∀ c d e f g h i j k l m n o p q r s t u v x y z A B C D E F G H I J K L M N O P Q S T U V W X Y,b a c d e f g h i j k l m n o p q r s t u v x y z A B C D E F G H I J K L M N O P Q S T U V W X Y->
 RR (ar .mul 3 false true J (.int .i64 131)) Y fun I Y=>
 b (aw a 14) c d e f g h i j k l m n o p q r s t u v x y z A B C D E F G H I J K L M N O P Q S T U V W X Y)/\
 (∀ a:Nat->Bool,a 15=false->∀ c d e f g h i j k l m n o p q r s t u v x y z A B C D E F G H I J K L M N O P Q S T U V W X Y,b a c d e f g h i j k l m n o p q r s t u v x y z A B C D E F G H I J K L M N O P Q S T U V W X Y->
 b (aw a 15) c d e f g h i j k l m n o p q r s t u v x y z A B C D E F G p0 I J K L M N O P Q S T U V W X Y)/\
 (∀ a:Nat->Bool,a 16=false->a 15=true->∀ c d e f g h i j k l m n o p q r s t u v x y z A B C D E F G H I J K L M N O P Q S T U V W X Y,b a c d e f g h i j k l m n o p q r s t u v x y z A B C D E F G H I J K L M N O P Q S T U V W X Y->
 RR (sOp (.nilCheck (.const H)) 0) Y fun G Y=>
 b (aw a 16) c d e f g h i j k l m n o p q r s t u v x y z A B C D E F G H I J K L M N O P Q S T U V W X Y)/\
 (∀ a:Nat->Bool,a 17=false->a 16=true->∀ c d e f g h i j k l m n o p q r s t u v x y z A B C D E F G H I J K L M N O P Q S T U V W X Y,b a c d e f g h i j k l m n o p q r s t u v x y z A B C D E F G H I J K L M N O P Q S T U V W X Y->
 RR (sOp (.fieldAddr 78 (.const G) 0) 0) Y fun F Y=>
 b (aw a 17) c d e f g h i j k l m n o p q r s t u v x y z A B C D E F G H I J K L M N O P Q S T U V W X Y)/\
 (∀ a:Nat->Bool,a 18=false->a 17=true->∀ c d e f g h i j k l m n o p q r s t u v x y z A B C D E F G H I J K L M N O P Q S T U V W X Y,b a c d e f g h i j k l m n o p q r s t u v x y z A B C D E F G H I J K L M N O P Q S T U V W X Y->
 RR (sOp (.load 22 (.const F)) 22) Y fun E Y=>
 b (aw a 18) c d e f g h i j k l m n o p q r s t u v x y z A B C D E F G H I J K L M N O P Q S T U V W X Y)/\
 (∀ c:Nat->Bool,c 19=false->∀ d e f g h i j k l m n o p q r s t u v x y z A B C D E F G H I J K L M N O P Q S T U V W X Y Z,b c d e f g h i j k l m n o p q r s t u v x y z A B C D E F G H I J K L M N O P Q S T U V W X Y Z->
 b (aw c 19) d e f g h i j k l m n o p q r s t u v x y z A B C D a F G H I J K L M N O P Q S T U V W X Y Z)/\
 (∀ a:Nat->Bool,a 20=false->a 19=true->∀ c d e f g h i j k l m n o p q r s t u v x y z A B C D E F G H I J K L M N O P Q S T U V W X Y,b a c d e f g h i j k l m n o p q r s t u v x y z A B C D E F G H I J K L M N O P Q S T U V W X Y->
 RR (ar .mul 3 false true D (.int .i64 7)) Y fun C Y=>
 b (aw a 20) c d e f g h i j k l m n o p q r s t u v x y z A B C D E F G H I J K L M N O P Q S T U V W X Y)/\
 (∀ a:Nat->Bool,a 21=false->a 20=true->∀ c d e f g h i j k l m n o p q r s t u v x y z A B C D E F G H I J K L M N O P Q S T U V W X Y,b a c d e f g h i j k l m n o p q r s t u v x y z A B C D E F G H I J K L M N O P Q S T U V W X Y->
 RR (ar .add 3 false true C (.int .i64 3)) Y fun B Y=>
 b (aw a 21) c d e f g h i j k l m n o p q r s t u v x y z A B C D E F G H I J K L M N O P Q S T U V W X Y)/\
 (∀ a:Nat->Bool,a 22=false->∀ c d e f g h i j k l m n o p q r s t u v x y z A B C D E F G H I J K L M N O P Q S T U V W X Y,b a c d e f g h i j k l m n o p q r s t u v x y z A B C D E F G H I J K L M N O P Q S T U V W X Y->
 b (aw a 22) c d e f g h i j k l m n o p q r s t u v x y z p0 B C D E F G H I J K L M N O P Q S T U V W X Y)/\
 (∀ a:Nat->Bool,a 23=false->a 22=true->∀ c d e f g h i j k l m n o p q r s t u v x y z A B C D E F G H I J K L M N O P Q S T U V W X Y,b a c d e f g h i j k l m n o p q r s t u v x y z A B C D E F G H I J K L M N O P Q S T U V W X Y->
 RR (sOp (.nilCheck (.const A)) 0) Y fun z Y=>
 b (aw a 23) c d e f g h i j k l m n o p q r s t u v x y z A B C D E F G H I J K L M N O P Q S T U V W X Y)/\
 (∀ a:Nat->Bool,a 24=false->a 23=true->∀ c d e f g h i j k l m n o p q r s t u v x y z A B C D E F G H I J K L M N O P Q S T U V W X Y,b a c d e f g h i j k l m n o p q r s t u v x y z A B C D E F G H I J K L M N O P Q S T U V W X Y->
 RR (sOp (.fieldAddr 78 (.const z) 0) 0) Y fun y Y=>
 b (aw a 24) c d e f g h i j k l m n o p q r s t u v x y z A B C D E F G H I J K L M N O P Q S T U V W X Y)/\
 (∀ a:Nat->Bool,a 25=false->a 24=true->∀ c d e f g h i j k l m n o p q r s t u v x y z A B C D E F G H I J K L M N O P Q S T U V W X Y,b a c d e f g h i j k l m n o p q r s t u v x y z A B C D E F G H I J K L M N O P Q S T U V W X Y->
 RR (sOp (.load 22 (.const y)) 22) Y fun x Y=>
 b (aw a 25) c d e f g h i j k l m n o p q r s t u v x y z A B C D E F G H I J K L M N O P Q S T U V W X Y)/\
 (∀ a:Nat->Bool,a 26=false->a 25=true->∀ c d e f g h i j k l m n o p q r s t u v x y z A B C D E F G H I J K L M N O P Q S T U V W X Y,b a c d e f g h i j k l m n o p q r s t u v x y z A B C D E F G H I J K L M N O P Q S T U V W X Y->
 RR (aq .len #[22] 3 [false] [x]) Y fun v Y=>
 b (aw a 26) c d e f g h i j k l m n o p q r s t u v x y z A B C D E F G H I J K L M N O P Q S T U V W X Y)/\
 (∀ a:Nat->Bool,a 27=false->a 21=true->a 26=true->∀ c d e f g h i j k l m n o p q r s t u v x y z A B C D E F G H I J K L M N O P Q S T U V W X Y,b a c d e f g h i j k l m n o p q r s t u v x y z A B C D E F G H I J K L M N O P Q S T U V W X Y->
 RR (ar .rem 3 false false B v) Y fun u Y=>
 b (aw a 27) c d e f g h i j k l m n o p q r s t u v x y z A B C D E F G H I J K L M N O P Q S T U V W X Y)/\
 (∀ a:Nat->Bool,a 28=false->a 18=true->a 27=true->∀ c d e f g h i j k l m n o p q r s t u v x y z A B C D E F G H I J K L M N O P Q S T U V W X Y,b a c d e f g h i j k l m n o p q r s t u v x y z A B C D E F G H I J K L M N O P Q S T U V W X Y->
 RR (sOp (.indexAddr 22 (.const E) (.const u)) 0) Y fun t Y=>
 b (aw a 28) c d e f g h i j k l m n o p q r s t u v x y z A B C D E F G H I J K L M N O P Q S T U V W X Y)/\
 (∀ a:Nat->Bool,a 29=false->a 28=true->∀ c d e f g h i j k l m n o p q r s t u v x y z A B C D E F G H I J K L M N O P Q S T U V W X Y,b a c d e f g h i j k l m n o p q r s t u v x y z A B C D E F G H I J K L M N O P Q S T U V W X Y->
 RR (sOp (.load 5 (.const t)) 5) Y fun s Y=>
 b (aw a 29) c d e f g h i j k l m n o p q r s t u v x y z A B C D E F G H I J K L M N O P Q S T U V W X Y)/\
 (∀ a:Nat->Bool,a 30=false->a 29=true->∀ c d e f g h i j k l m n o p q r s t u v x y z A B C D E F G H I J K L M N O P Q S T U V W X Y,b a c d e f g h i j k l m n o p q r s t u v x y z A B C D E F G H I J K L M N O P Q S T U V W X Y->
 RR (sOp (.convert 5 3 (.const s)) 3) Y fun r Y=>
 b (aw a 30) c d e f g h i j k l m n o p q r s t u v x y z A B C D E F G H I J K L M N O P Q S T U V W X Y)/\
 (∀ a:Nat->Bool,a 31=false->a 30=true->∀ c d e f g h i j k l m n o p q r s t u v x y z A B C D E F G H I J K L M N O P Q S T U V W X Y,b a c d e f g h i j k l m n o p q r s t u v x y z A B C D E F G H I J K L M N O P Q S T U V W X Y->
 RR (ar .mul 3 false true r (.int .i64 1117)) Y fun q Y=>
 b (aw a 31) c d e f g h i j k l m n o p q r s t u v x y z A B C D E F G H I J K L M N O P Q S T U V W X Y)/\
 (∀ a:Nat->Bool,a 32=false->a 14=true->a 31=true->∀ c d e f g h i j k l m n o p q r s t u v x y z A B C D E F G H I J K L M N O P Q S T U V W X Y,b a c d e f g h i j k l m n o p q r s t u v x y z A B C D E F G H I J K L M N O P Q S T U V W X Y->
 RR (ar .add 3 false false I q) Y fun p Y=>
 b (aw a 32) c d e f g h i j k l m n o p q r s t u v x y z A B C D E F G H I J K L M N O P Q S T U V W X Y)/\
 (∀ c:Nat->Bool,c 33=false->∀ d e f g h i j k l m n o p q r s t u v x y z A B C D E F G H I J K L M N O P Q S T U V W X Y Z,b c d e f g h i j k l m n o p q r s t u v x y z A B C D E F G H I J K L M N O P Q S T U V W X Y Z->
 b (aw c 33) d e f g h i j k l m n o a q r s t u v x y z A B C D E F G H I J K L M N O P Q S T U V W X Y Z)/\
 (∀ a:Nat->Bool,a 34=false->a 33=true->∀ c d e f g h i j k l m n o p q r s t u v x y z A B C D E F G H I J K L M N O P Q S T U V W X Y,b a c d e f g h i j k l m n o p q r s t u v x y z A B C D E F G H I J K L M N O P Q S T U V W X Y->
 RR (ar .mul 3 false true o (.int .i64 29)) Y fun n Y=>
 b (aw a 34) c d e f g h i j k l m n o p q r s t u v x y z A B C D E F G H I J K L M N O P Q S T U V W X Y)/\
 (∀ a:Nat->Bool,a 35=false->a 32=true->a 34=true->∀ c d e f g h i j k l m n o p q r s t u v x y z A B C D E F G H I J K L M N O P Q S T U V W X Y,b a c d e f g h i j k l m n o p q r s t u v x y z A B C D E F G H I J K L M N O P Q S T U V W X Y->
 RR (ar .add 3 false false p n) Y fun m Y=>
 b (aw a 35) c d e f g h i j k l m n o p q r s t u v x y z A B C D E F G H I J K L M N O P Q S T U V W X Y)/\
 (∀ c:Nat->Bool,c 36=false->∀ d e f g h i j k l m n o p q r s t u v x y z A B C D E F G H I J K L M N O P Q S T U V W X Y Z,b c d e f g h i j k l m n o p q r s t u v x y z A B C D E F G H I J K L M N O P Q S T U V W X Y Z->
 b (aw c 36) d e f g h i j k l a n o p q r s t u v x y z A B C D E F G H I J K L M N O P Q S T U V W X Y Z)/\
 (∀ a:Nat->Bool,a 37=false->∀ c d e f g h i j k l m n o p q r s t u v x y z A B C D E F G H I J K L M N O P Q S T U V W X Y,b a c d e f g h i j k l m n o p q r s t u v x y z A B C D E F G H I J K L M N O P Q S T U V W X Y->
 b (aw a 37) c d e f g h i j p0 l m n o p q r s t u v x y z A B C D E F G H I J K L M N O P Q S T U V W X Y)/\
 (∀ a:Nat->Bool,a 38=false->a 37=true->∀ c d e f g h i j k l m n o p q r s t u v x y z A B C D E F G H I J K L M N O P Q S T U V W X Y,b a c d e f g h i j k l m n o p q r s t u v x y z A B C D E F G H I J K L M N O P Q S T U V W X Y->
 RR (sOp (.nilCheck (.const k)) 0) Y fun j Y=>
 b (aw a 38) c d e f g h i j k l m n o p q r s t u v x y z A B C D E F G H I J K L M N O P Q S T U V W X Y)/\
 (∀ a:Nat->Bool,a 39=false->a 38=true->∀ c d e f g h i j k l m n o p q r s t u v x y z A B C D E F G H I J K L M N O P Q S T U V W X Y,b a c d e f g h i j k l m n o p q r s t u v x y z A B C D E F G H I J K L M N O P Q S T U V W X Y->
 RR (sOp (.fieldAddr 78 (.const j) 0) 0) Y fun i Y=>
 b (aw a 39) c d e f g h i j k l m n o p q r s t u v x y z A B C D E F G H I J K L M N O P Q S T U V W X Y)/\
 (∀ a:Nat->Bool,a 40=false->a 39=true->∀ c d e f g h i j k l m n o p q r s t u v x y z A B C D E F G H I J K L M N O P Q S T U V W X Y,b a c d e f g h i j k l m n o p q r s t u v x y z A B C D E F G H I J K L M N O P Q S T U V W X Y->
 RR (sOp (.load 22 (.const i)) 22) Y fun h Y=>
 b (aw a 40) c d e f g h i j k l m n o p q r s t u v x y z A B C D E F G H I J K L M N O P Q S T U V W X Y)/\
 (∀ a:Nat->Bool,a 41=false->a 40=true->∀ c d e f g h i j k l m n o p q r s t u v x y z A B C D E F G H I J K L M N O P Q S T U V W X Y,b a c d e f g h i j k l m n o p q r s t u v x y z A B C D E F G H I J K L M N O P Q S T U V W X Y->
 RR (aq .len #[22] 3 [false] [h]) Y fun g Y=>
 b (aw a 41) c d e f g h i j k l m n o p q r s t u v x y z A B C D E F G H I J K L M N O P Q S T U V W X Y)/\
 (∀ a:Nat->Bool,a 42=false->a 36=true->a 41=true->∀ c d e f g h i j k l m n o p q r s t u v x y z A B C D E F G H I J K L M N O P Q S T U V W X Y,b a c d e f g h i j k l m n o p q r s t u v x y z A B C D E F G H I J K L M N O P Q S T U V W X Y->
 RR (ar .quo 3 false false l g) Y fun f Y=>
 b (aw a 42) c d e f g h i j k l m n o p q r s t u v x y z A B C D E F G H I J K L M N O P Q S T U V W X Y)/\
 (∀ a:Nat->Bool,a 43=false->a 42=true->∀ c d e f g h i j k l m n o p q r s t u v x y z A B C D E F G H I J K L M N O P Q S T U V W X Y,b a c d e f g h i j k l m n o p q r s t u v x y z A B C D E F G H I J K L M N O P Q S T U V W X Y->
 RR (ar .mul 3 false true f (.int .i64 53)) Y fun e Y=>
 b (aw a 43) c d e f g h i j k l m n o p q r s t u v x y z A B C D E F G H I J K L M N O P Q S T U V W X Y)/\
 (∀ a:Nat->Bool,a 44=false->a 35=true->a 43=true->∀ c d e f g h i j k l m n o p q r s t u v x y z A B C D E F G H I J K L M N O P Q S T U V W X Y,b a c d e f g h i j k l m n o p q r s t u v x y z A B C D E F G H I J K L M N O P Q S T U V W X Y->
 RR (ar .add 3 false false m e) Y fun d Y=>
 b (aw a 44) c d e f g h i j k l m n o p q r s t u v x y z A B C D E F G H I J K L M N O P Q S T U V W X Y)/\
 (∀ a:Nat->Bool,a 45=false->a 44=true->a 0=true->a 1=true->a 2=true->a 3=true->a 4=true->a 5=true->a 6=true->a 7=true->a 8=true->a 9=true->a 10=true->a 11=true->a 12=true->a 13=true->a 14=true->a 15=true->a 16=true->a 17=true->a 18=true->a 19=true->a 20=true->a 21=true->a 22=true->a 23=true->a 24=true->a 25=true->a 26=true->a 27=true->a 28=true->a 29=true->a 30=true->a 31=true->a 32=true->a 33=true->a 34=true->a 35=true->a 36=true->a 37=true->a 38=true->a 39=true->a 40=true->a 41=true->a 42=true->a 43=true->a 44=true->∀ c d e f g h i j k l m n o p q r s t u v x y z A B C D E F G H I J K L M N O P Q S T U V W X Y,b a c d e f g h i j k l m n o p q r s t u v x y z A B C D E F G H I J K L M N O P Q S T U V W X Y->
 b (aw a 45) d d e f g h i j k l m n o p q r s t u v x y z A B C D E F G H I J K L M N O P Q S T U V W X Y)/\
 True)/\
 ∀ a:Nat->Bool,a 45=true->a 44=true->a 43=true->a 42=true->a 41=true->a 40=true->a 39=true->a 38=true->a 37=true->a 36=true->a 35=true->a 34=true->a 33=true->a 32=true->a 31=true->a 30=true->a 29=true->a 28=true->a 27=true->a 26=true->a 25=true->a 24=true->a 23=true->a 22=true->a 21=true->a 20=true->a 19=true->a 18=true->a 17=true->a 16=true->a 15=true->a 14=true->a 13=true->a 12=true->a 11=true->a 10=true->a 9=true->a 8=true->a 7=true->a 6=true->a 5=true->a 4=true->a 3=true->a 2=true->a 1=true->a 0=true->∀ c d e f g h i j k l m n o p q r s t u v x y z A B C D E F G H I J K L M N O P Q S T U V W X Y,b a c d e f g h i j k l m n o p q r s t u v x y z A B C D E F G H I J K L M N O P Q S T U V W X Y->
 RR (ar .quo 3 false true c (.int .i64 64)) Y fun a b=>
 RR (ar .xor 3 false false c a) b fun a b=>
 RR (ar .rem 3 false false a p1) b fun a b=>
 R (.returned a) b))))
theorem qq {p0 p1:Value} {w:World} {R:Ending->World->Prop} (h:mK p0 p1 w R):Calls Tryz.prog 69 #[p0,p1] w R:=
  aL (.seq none .leaf (.seq none .leaf (.seq none (.seq (some [24]) .leaf .leaf) .leaf))) [p0,p1] bf Tryz.func69 (by kernel_rfl) (by kernel_rfl) h


/- loop.example/prologserver/spec.l16Body : function 71 -/
def mc (p0 p1 p2 p3 p4:Value) (w:World) (R:Ending->World->Prop):Prop:=
 RR (sOp (.box 39 (.const p1)) 0) w fun a b=>
 RR (aq .len #[23] 3 [false] [p0]) b fun b c=>
 RR (ar .gtr 3 false true b (.int .i64 60)) c fun b c=>
 CondV b (
 R (.returned p0) c) (
 RR (sOp (.fieldAddr 39 (.const a) 1) 0) c fun b c=>
 RR (sOp (.load 23 (.const b)) 23) c fun b c=>
 RR (aq .len #[23] 3 [false] [b]) c fun b c=>
 RR (ar .eql 3 false false p2 b) c fun b c=>
 CondV b (
 RR (sOp (.fieldAddr 39 (.const a) 0) 0) c fun a b=>
 RR (sOp (.load 25 (.const a)) 25) b fun a b=>
 RR (aJ (.func (.func 116) #[] #[]) [a,p4]) b fun a b=>
 RR (aJ (.func (.func 115) #[] #[]) [p0,a]) b fun a b=>
 R (.returned a) b) (
 (∃ (b:Value->Value->World->Prop) (d:Value->Value->World->Nat),b (.int .i64 0) p0 c/\
 ∀ c _ _ e _ _ _ _ _ _ _ _ f g h i j k l m n o p q r s t u _ _ _ _:Value,∀ v:World,b c e v->
 RR (aq .len #[23] 3 [false] [p3]) v fun x y=>
 RR (ar .lss 3 false false c x) y fun x y=>
 CondV x (
 (∃ x:Value->World->Prop,(
 (∃ b:(Nat->Bool)->Value->Value->Value->Value->Value->Value->Value->Value->Value->Value->Value->Value->Value->Value->Value->Value->World->Prop,b (fun _=>false) f g h i j k l m n o p q r s t u { y with drawn:=y.drawn+1 }/\(
 (∀ c:Nat->Bool,c 0=false->∀ d e f g h i j k l m n o p q r s t,b c d e f g h i j k l m n o p q r s t->
 RR (sOp (.fieldAddr 39 (.const a) 1) 0) t fun a s=>
 b (aw c 0) d e f g h i j k l m n o p q r a s)/\
 (∀ a:Nat->Bool,a 1=false->a 0=true->∀ c d e f g h i j k l m n o p q r s,b a c d e f g h i j k l m n o p q r s->
 RR (sOp (.load 23 (.const r)) 23) s fun q s=>
 b (aw a 1) c d e f g h i j k l m n o p q r s)/\
 (∀ a:Nat->Bool,a 2=false->∀ c d e f g h i j k l m n o p q r s,b a c d e f g h i j k l m n o p q r s->
 b (aw a 2) c d e f g h i j k l m n o p2 q r s)/\
 (∀ a:Nat->Bool,a 3=false->a 1=true->a 2=true->∀ c d e f g h i j k l m n o p q r s,b a c d e f g h i j k l m n o p q r s->
 RR (sOp (.indexAddr 23 (.const q) (.const p)) 0) s fun o s=>
 b (aw a 3) c d e f g h i j k l m n o p q r s)/\
 (∀ a:Nat->Bool,a 4=false->a 3=true->∀ c d e f g h i j k l m n o p q r s,b a c d e f g h i j k l m n o p q r s->
 RR (sOp (.load 25 (.const o)) 25) s fun n s=>
 b (aw a 4) c d e f g h i j k l m n o p q r s)/\
 (∀ a:Nat->Bool,a 5=false->∀ c d e f g h i j k l m n o p q r s,b a c d e f g h i j k l m n o p q r s->
 b (aw a 5) c d e f g h i j k l p3 n o p q r s)/\
 (∀ a:Nat->Bool,a 6=false->∀ d e f g h i j k l m n o p q r s t,b a d e f g h i j k l m n o p q r s t->
 b (aw a 6) d e f g h i j k l c n o p q r s t)/\
 (∀ a:Nat->Bool,a 7=false->a 5=true->a 6=true->∀ c d e f g h i j k l m n o p q r s,b a c d e f g h i j k l m n o p q r s->
 RR (sOp (.indexAddr 23 (.const m) (.const l)) 0) s fun k s=>
 b (aw a 7) c d e f g h i j k l m n o p q r s)/\
 (∀ a:Nat->Bool,a 8=false->a 7=true->∀ c d e f g h i j k l m n o p q r s,b a c d e f g h i j k l m n o p q r s->
 RR (sOp (.load 25 (.const k)) 25) s fun j s=>
 b (aw a 8) c d e f g h i j k l m n o p q r s)/\
 (∀ a:Nat->Bool,a 9=false->∀ c d e f g h i j k l m n o p q r s,b a c d e f g h i j k l m n o p q r s->
 b (aw a 9) c d e f g h p4 j k l m n o p q r s)/\
 (∀ a:Nat->Bool,a 10=false->a 4=true->a 8=true->a 9=true->∀ c d e f g h i j k l m n o p q r s,b a c d e f g h i j k l m n o p q r s->
 RR (aJ (.func (.func 117) #[] #[]) [n,j,i]) s fun h s=>
 b (aw a 10) c d e f g h i j k l m n o p q r s)/\
 (∀ a:Nat->Bool,a 11=false->a 10=true->∀ c d e f g h i j k l m n o p q r s,b a c d e f g h i j k l m n o p q r s->
 b (aw a 11) c d e f h h i j k l m n o p q r s)/\
 (∀ a:Nat->Bool,a 12=false->a 11=true->∀ c d e f g h i j k l m n o p q r s,b a c d e f g h i j k l m n o p q r s->
 RR (sOp (.extract (.const g) 0) 23) s fun f s=>
 b (aw a 12) c d e f g h i j k l m n o p q r s)/\
 (∀ a:Nat->Bool,a 13=false->a 11=true->∀ c d e f g h i j k l m n o p q r s,b a c d e f g h i j k l m n o p q r s->
 RR (sOp (.extract (.const g) 1) 4) s fun e s=>
 b (aw a 13) c d e f g h i j k l m n o p q r s)/\
 (∀ a:Nat->Bool,a 14=false->a 12=true->a 10=true->a 0=true->a 1=true->a 2=true->a 3=true->a 4=true->a 5=true->a 6=true->a 7=true->a 8=true->a 9=true->a 10=true->a 11=true->a 12=true->∀ c d e f g h i j k l m n o p q r s,b a c d e f g h i j k l m n o p q r s->
 b (aw a 14) c f e f g h i j k l m n o p q r s)/\
 (∀ a:Nat->Bool,a 15=false->a 13=true->a 14=true->a 0=true->a 1=true->a 2=true->a 3=true->a 4=true->a 5=true->a 6=true->a 7=true->a 8=true->a 9=true->a 10=true->a 11=true->a 12=true->a 13=true->a 14=true->∀ c d e f g h i j k l m n o p q r s,b a c d e f g h i j k l m n o p q r s->
 b (aw a 15) e d e f g h i j k l m n o p q r s)/\
 True)/\
 ∀ c:Nat->Bool,c 15=true->c 14=true->c 13=true->c 12=true->c 11=true->c 10=true->c 9=true->c 8=true->c 7=true->c 6=true->c 5=true->c 4=true->c 3=true->c 2=true->c 1=true->c 0=true->∀ d f g h i j k l m n o p q r s t u,b c d f g h i j k l m n o p q r s t u->
 CondV d (
 RR (sOp (.load 39 (.const a)) 39) u fun a b=>
 RR (ar .add 3 false true p2 (.int .i64 1)) b fun b c=>
 RR (aJ (.func (.func 71) #[] #[]) [e,a,b,p3,f]) c fun a b=>
 x a b) (
 x e u)))/\
 ∀ a _ _ _ _ _ _ _ _ _ _ _ _ _ _ _ _ _ _ _ _ _ _ _ _:Value,∀ f:World,x a f->
 RR (ar .add 3 false true c (.int .i64 1)) f fun f g=>
 b f a g/\d f a g<d c e v)) (
 R (.returned e) y))))
theorem mr {p0 p1 p2 p3 p4:Value} {w:World} {R:Ending->World->Prop} (h:mc p0 p1 p2 p3 p4 w R):Calls Tryz.prog 71 #[p0,p1,p2,p3,p4] w R:=
  aL (.seq none .leaf (.seq none .leaf (.seq none .leaf (.seq none (.seq none .leaf (.one (.loop [11,0] (.seq none .leaf (.seq (some [0]) .leaf .leaf))))) .leaf)))) [p0,p1,p2,p3,p4] bf Tryz.func71 (by kernel_rfl) (by kernel_rfl) h


/- loop.example/prologserver/spec.l16Texts : function 73 -/
def pL (w:World) (R:Ending->World->Prop):Prop:=
 RR (aS 67 6 [(0,(.string ⟨#[101,40,97,44,98,41,46,10,101,40,98,44,99,41,46,10,101,40,99,44,97,41,46,10,116,40,65,44,66,41,58,45,101,40,65,44,66,41,46,10,116,40,65,44,66,41,58,45,101,40,65,44,67,41,44,116,40,67,44,66,41,46,10]⟩)),(1,(.string ⟨#[112,40,49,41,46,10,112,40,50,41,46,10,113,40,65,44,66,41,58,45,112,40,65,41,44,112,40,66,41,46,10,114,40,65,41,58,45,113,40,65,44,65,41,46,10]⟩)),(2,(.string ⟨#[111,107,46,10,121,101,115,58,45,111,107,46,10,110,111,58,45,110,101,118,101,114,40,49,41,46,10]⟩)),(3,(.string ⟨#[117,112,40,97,44,98,41,46,10,117,112,40,98,44,99,41,46,10,115,103,40,65,44,66,41,58,45,117,112,40,65,44,67,41,44,117,112,40,66,44,67,41,46,10,115,103,40,65,44,66,41,58,45,117,112,40,65,44,67,41,44,115,103,40,67,44,68,41,44,117,112,40,66,44,68,41,46,10]⟩)),(4,(.string ⟨#[110,40,49,41,46,10,110,40,65,41,58,45,110,40,65,41,46,10,109,40,65,41,58,45,110,40,65,41,44,111,40,65,41,46,10,111,40,49,41,46,10]⟩)),(5,(.string ⟨#[101,40,97,44,98,41,46,10,101,40,98,44,99,41,46,10,116,40,65,44,66,41,58,45,101,40,65,44,66,41,46,10,116,40,65,44,66,41,58,45,116,40,65,44,67,41,44,116,40,67,44,66,41,46,10]⟩))]) w fun a b=>
 R (.returned a) b
theorem tU {w:World} {R:Ending->World->Prop} (h:pL w R):Calls Tryz.prog 73 #[] w R:=
  aL .leaf [] bf Tryz.func73 (by kernel_rfl) (by kernel_rfl) h


/- loop.example/prologserver/spec.ParseProgram : function 74 -/
def kj (p0:Value) (w:World) (R:Ending->World->Prop):Prop:=
 RR (aS 32 0 []) w fun a b=>
 RR (aJ (.func (.func 119) #[] #[]) [p0,(.int .u8 10)]) b fun b c=>
 (∃ d:Value->World->Prop,(
 RR (aq .len #[67] 3 [false] [b]) c fun a c=>
 RR (ar .gtr 3 false true a (.int .i64 21)) c fun a c=>
 ah a false (
 RR (aq .len #[67] 3 [false] [b]) c fun c e=>
 RR (ar .sub 3 false true c (.int .i64 1)) e fun c e=>
 RR (sOp (.indexAddr 67 (.const b) (.const c)) 0) e fun b c=>
 RR (sOp (.load 9 (.const b)) 9) c fun b c=>
 RR (ar .neq 9 false true b (.string ⟨#[]⟩)) c fun b c=>
 RR (sOp (.pick (.const a) (.const (.bool true)) (.const b)) 4) c fun a b=>
 d a b) (
 RR (sOp (.pick (.const a) (.const (.bool true)) (.const undef)) 4) c fun a b=>
 d a b))/\
 ∀ c _ _ _ _ _ _ _ _ _ _ _:Value,∀ e:World,d c e->
 CondV c (
 R (.returned (.tuple #[a,(.bool false)])) e) (
 (∃ (c:Value->Value->World->Prop) (d:Value->Value->World->Nat),c (.int .i64 0) a e/\
 ∀ a _ _ e _ _ _ _ _ _ _ _ _ _ _ _ _ _ _ _ _ _ _ _ _ _ _ _:Value,∀ f:World,c a e f->
 RR (ar .add 3 false true a (.int .i64 1)) f fun g h=>
 RR (aq .len #[67] 3 [false] [b]) h fun h i=>
 RR (ar .lss 3 false false g h) i fun g h=>
 CondV g (
 RR (sOp (.indexAddr 67 (.const b) (.const a)) 0) h fun b g=>
 RR (sOp (.load 9 (.const b)) 9) g fun b g=>
 RR (aJ (.func (.func 120) #[] #[]) [b]) g fun b g=>
 RR (sOp (.extract (.const b) 0) 39) g fun g h=>
 RR (sOp (.extract (.const b) 1) 4) h fun b h=>
 RR (sOp (.alloc 39) 0) h fun h i=>
 RR (sOp (.store 39 (.const h) (.const g)) 0) i fun _ g=>
 RR (sOp (.unOp .not 4 (.const b)) 4) g fun b g=>
 CondV b (
 RR (aS 32 0 []) g fun a b=>
 R (.returned (.tuple #[a,(.bool false)])) b) (
 RR (sOp (.load 39 (.const h)) 39) g fun b g=>
 RR (aS 32 1 [(0,b)]) g fun b g=>
 RR (aq .append #[32,32] 32 [false,false] [e,b]) g fun b g=>
 RR (ar .add 3 false true a (.int .i64 1)) g fun g h=>
 c g b h/\d g b h<d a e f)) (
 R (.returned (.tuple #[e,(.bool true)])) h))))
theorem oF {p0:Value} {w:World} {R:Ending->World->Prop} (h:kj p0 w R):Calls Tryz.prog 74 #[p0] w R:=
  aL (.seq none .leaf (.seq none .leaf (.seq none .leaf (.seq none (.seq (some [23]) .leaf .leaf) (.seq none (.seq none .leaf (.one (.loop [6,4] .leaf))) .leaf))))) [p0] bf Tryz.func74 (by kernel_rfl) (by kernel_rfl) h


/- loop.example/prologserver/spec.l4Program : function 75 -/
def oH (p0:Value) (w:World) (R:Ending->World->Prop):Prop:=
 RR (aJ (.func (.func 121) #[] #[]) []) w fun a b=>
 RR (aq .len #[67] 3 [false] [a]) b fun b c=>
 RR (aJ (.func (.func 69) #[] #[]) [p0,b]) c fun b c=>
 RR (sOp (.indexAddr 67 (.const a) (.const b)) 0) c fun a b=>
 RR (sOp (.load 9 (.const a)) 9) b fun a b=>
 RR (aJ (.func (.func 74) #[] #[]) [a]) b fun a b=>
 RR (sOp (.extract (.const a) 0) 32) b fun b c=>
 RR (sOp (.extract (.const a) 1) 4) c fun _ a=>
 R (.returned b) a
theorem th {p0:Value} {w:World} {R:Ending->World->Prop} (h:oH p0 w R):Calls Tryz.prog 75 #[p0] w R:=
  aL .leaf [p0] bf Tryz.func75 (by kernel_rfl) (by kernel_rfl) h


/- (*loop.example/prologserver/spec.l18Rd).of : function 76 -/
def pP (p0 p1:Value) (w:World) (R:Ending->World->Prop):Prop:=
 RR (aq .len #[67] 3 [false] [p1]) w fun a b=>
 RR (aJ (.func (.func 69) #[] #[]) [p0,a]) b fun a b=>
 RR (sOp (.indexAddr 67 (.const p1) (.const a)) 0) b fun a b=>
 RR (sOp (.load 9 (.const a)) 9) b fun a b=>
 R (.returned a) b
theorem uP {p0 p1:Value} {w:World} {R:Ending->World->Prop} (h:pP p0 p1 w R):Calls Tryz.prog 76 #[p0,p1] w R:=
  aL .leaf [p0,p1] bf Tryz.func76 (by kernel_rfl) (by kernel_rfl) h


/- loop.example/prologserver/spec.l1Int : function 77 -/
def xQ (p0:Value) (w:World) (R:Ending->World->Prop):Prop:=
 RR (sOp (.alloc 25) 0) w fun a b=>
 RR (dD 25 [(0,(.int .i64 2)),(1,p0)]) b fun b c=>
 RR (sOp (.store 25 (.const a) (.const b)) 0) c fun _ b=>
 (be Tryz.prog 25 a b fun a=>R (.returned a) b)
theorem Ah {p0:Value} {w:World} {R:Ending->World->Prop} (h:xQ p0 w R):Calls Tryz.prog 77 #[p0] w R:=
  aL .leaf [p0] bf Tryz.func77 (by kernel_rfl) (by kernel_rfl) h


/- loop.example/prologserver/spec.l1Struct : function 78 -/
def pT (p0 p1:Value) (w:World) (R:Ending->World->Prop):Prop:=
 RR (sOp (.alloc 25) 0) w fun a b=>
 RR (aS 23 0 []) b fun b c=>
 RR (aq .append #[23,23] 23 [false,false] [b,p1]) c fun b c=>
 RR (dD 25 [(0,(.int .i64 3)),(2,p0),(3,b)]) c fun b c=>
 RR (sOp (.store 25 (.const a) (.const b)) 0) c fun _ b=>
 (be Tryz.prog 25 a b fun a=>R (.returned a) b)
theorem uu {p0 p1:Value} {w:World} {R:Ending->World->Prop} (h:pT p0 p1 w R):Calls Tryz.prog 78 #[p0,p1] w R:=
  aL .leaf [p0,p1] bf Tryz.func78 (by kernel_rfl) (by kernel_rfl) h


/- loop.example/prologserver/impl.own : function 81 -/
def Fm (p0:Value) (w:World) (R:Ending->World->Prop):Prop:=
 RR (sOp (.box 25 (.const p0)) 0) w fun a b=>
 RR (sOp (.alloc 25) 0) b fun b c=>
 RR (sOp (.fieldAddr 25 (.const a) 3) 0) c fun c d=>
 RR (sOp (.load 23 (.const c)) 23) d fun c d=>
 RR (aJ (.func (.func 36) #[] #[]) [c]) d fun c d=>
 RR (sOp (.fieldAddr 25 (.const a) 3) 0) d fun d e=>
 RR (sOp (.store 23 (.const d) (.const c)) 0) e fun _ c=>
 RR (sOp (.load 25 (.const a)) 25) c fun a c=>
 RR (sOp (.store 25 (.const b) (.const a)) 0) c fun _ a=>
 (be Tryz.prog 25 b a fun b=>R (.returned b) a)
theorem Gn {p0:Value} {w:World} {R:Ending->World->Prop} (h:Fm p0 w R):Calls Tryz.prog 81 #[p0] w R:=
  aL .leaf [p0] bf Tryz.func81 (by kernel_rfl) (by kernel_rfl) h


/- slices.IndexFunc[[]loop.example/prologserver/impl.Term,loop.example/prologserver/impl.Term] : function 82 -/
def iS (p0 p1:Value) (w:World) (R:Ending->World->Prop):Prop:=
 RR (aq .len #[23] 3 [false] [p0]) w fun a b=>
 (∃ (c:Value->World->Prop) (d:Value->World->Nat),c (.int .i64 0) b/\
 ∀ b _ _ _ _ _ _ _ _ _ _ _ _:Value,∀ e:World,c b e->
 RR (ar .lss 3 false false b a) e fun a f=>
 CondV a (
 RR (sOp (.indexAddr 23 (.const p0) (.const b)) 0) f fun a f=>
 RR (sOp (.load 25 (.const a)) 25) f fun a f=>
 RR (aJ p1 [a]) f fun a f=>
 CondV a (
 R (.returned b) f) (
 RR (ar .add 3 false true b (.int .i64 1)) f fun a f=>
 c a f/\d a f<d b e)) (
 R (.returned (.int .i64 (-1))) f))
theorem mn {p0 p1:Value} {w:World} {R:Ending->World->Prop} (h:iS p0 p1 w R):Calls Tryz.prog 82 #[p0,p1] w R:=
  aL (.seq none .leaf (.seq none (.seq none .leaf (.one (.loop [8] .leaf))) .leaf)) [p0,p1] bf Tryz.func82 (by kernel_rfl) (by kernel_rfl) h


/- slices.EqualFunc[[]loop.example/prologserver/impl.Term,[]loop.example/prologserver/impl.Term,loop.example/prologserver/impl.Term,loop.example/prologserver/impl.Term] : function 83 -/
def iT (p0 p1 p2:Value) (w:World) (R:Ending->World->Prop):Prop:=
 RR (aq .len #[23] 3 [false] [p0]) w fun a b=>
 RR (aq .len #[23] 3 [false] [p1]) b fun b c=>
 RR (ar .neq 3 false false a b) c fun a b=>
 CondV a (
 R (.returned (.bool false)) b) (
 RR (aq .len #[23] 3 [false] [p0]) b fun a b=>
 (∃ (c:Value->World->Prop) (d:Value->World->Nat),c (.int .i64 0) b/\
 ∀ b _ _ _ _ _ _ _ _ _ _ _ _ _ _ _ _ _ _:Value,∀ e:World,c b e->
 RR (ar .lss 3 false false b a) e fun a f=>
 CondV a (
 RR (sOp (.indexAddr 23 (.const p0) (.const b)) 0) f fun a f=>
 RR (sOp (.load 25 (.const a)) 25) f fun a f=>
 RR (sOp (.alloc 25) 0) f fun f g=>
 RR (sOp (.store 25 (.const f) (.const a)) 0) g fun _ a=>
 RR (sOp (.indexAddr 23 (.const p1) (.const b)) 0) a fun a g=>
 RR (sOp (.load 25 (.const a)) 25) g fun a g=>
 RR (sOp (.alloc 25) 0) g fun g h=>
 RR (sOp (.store 25 (.const g) (.const a)) 0) h fun _ a=>
 RR (sOp (.load 25 (.const f)) 25) a fun a f=>
 RR (sOp (.load 25 (.const g)) 25) f fun f g=>
 RR (aJ p2 [a,f]) g fun a f=>
 RR (sOp (.unOp .not 4 (.const a)) 4) f fun a f=>
 CondV a (
 R (.returned (.bool false)) f) (
 RR (ar .add 3 false true b (.int .i64 1)) f fun a f=>
 c a f/\d a f<d b e)) (
 R (.returned (.bool true)) f)))
theorem mm {p0 p1 p2:Value} {w:World} {R:Ending->World->Prop} (h:iT p0 p1 p2 w R):Calls Tryz.prog 83 #[p0,p1,p2] w R:=
  aL (.seq none .leaf (.seq none .leaf (.seq none (.seq none .leaf (.one (.loop [17] .leaf))) .leaf))) [p0,p1,p2] bf Tryz.func83 (by kernel_rfl) (by kernel_rfl) h


/- loop.example/prologserver/spec.TermValid : function 84 -/
def n8 (p0:Value) (w:World) (R:Ending->World->Prop):Prop:=
 RR (sOp (.box 25 (.const p0)) 0) w fun a b=>
 RR (sOp (.load 25 (.const a)) 25) b fun b c=>
 RR (aJ (.func (.func 124) #[] #[]) [b,(.int .i64 30)]) c fun b c=>
 ah b true (
 RR (sOp (.load 25 (.const a)) 25) c fun a c=>
 RR (aJ (.func (.func 125) #[] #[]) [a,(.int .i64 120)]) c fun a c=>
 RR (ar .leq 3 false true a (.int .i64 120)) c fun a c=>
 RR (sOp (.pick (.const b) (.const a) (.const (.bool false))) 4) c fun a b=>
 R (.returned a) b) (
 RR (sOp (.pick (.const b) (.const undef) (.const (.bool false))) 4) c fun a b=>
 R (.returned a) b)
theorem sj {p0:Value} {w:World} {R:Ending->World->Prop} (h:n8 p0 w R):Calls Tryz.prog 84 #[p0] w R:=
  aL .leaf [p0] bf Tryz.func84 (by kernel_rfl) (by kernel_rfl) h


/- loop.example/prologserver/spec.l3Match : function 85 -/
def tm (p0 p1 p2:Value) (w:World) (R:Ending->World->Prop):Prop:=
 RR (sOp (.box 25 (.const p0)) 0) w fun a b=>
 RR (sOp (.box 25 (.const p1)) 0) b fun b c=>
 RR (sOp (.fieldAddr 25 (.const a) 0) 0) c fun c d=>
 RR (sOp (.load 3 (.const c)) 3) d fun c d=>
 RR (ar .eql 3 false true c (.int .i64 1)) d fun c d=>
 CondV c (
 RR (sOp (.fieldAddr 25 (.const a) 1) 0) d fun c d=>
 RR (sOp (.load 3 (.const c)) 3) d fun c d=>
 RR (sOp (.indexAddr 23 (.const p2) (.const c)) 0) d fun c d=>
 RR (sOp (.fieldAddr 25 (.const c) 0) 0) d fun c d=>
 RR (sOp (.load 3 (.const c)) 3) d fun c d=>
 RR (ar .neq 3 false true c (.int .i64 0)) d fun c d=>
 CondV c (
 (∃ c:(Nat->Bool)->Value->Value->Value->Value->Value->Value->Value->Value->World->Prop,c (fun _=>false) (.bool false) undef undef undef undef undef undef undef { d with drawn:=d.drawn+1 }/\(
 (∀ a:Nat->Bool,a 0=false->∀ b d e f g h i j k,c a b d e f g h i j k->
 c (aw a 0) b d e f g h i p2 k)/\
 (∀ b:Nat->Bool,b 1=false->∀ d e f g h i j k l,c b d e f g h i j k l->
 RR (sOp (.fieldAddr 25 (.const a) 1) 0) l fun a j=>
 c (aw b 1) d e f g h i a k j)/\
 (∀ a:Nat->Bool,a 2=false->a 1=true->∀ b d e f g h i j k,c a b d e f g h i j k->
 RR (sOp (.load 3 (.const i)) 3) k fun h k=>
 c (aw a 2) b d e f g h i j k)/\
 (∀ a:Nat->Bool,a 3=false->a 0=true->a 2=true->∀ b d e f g h i j k,c a b d e f g h i j k->
 RR (sOp (.indexAddr 23 (.const j) (.const h)) 0) k fun g k=>
 c (aw a 3) b d e f g h i j k)/\
 (∀ a:Nat->Bool,a 4=false->a 3=true->∀ b d e f g h i j k,c a b d e f g h i j k->
 RR (sOp (.load 25 (.const g)) 25) k fun f k=>
 c (aw a 4) b d e f g h i j k)/\
 (∀ a:Nat->Bool,a 5=false->∀ d e f g h i j k l,c a d e f g h i j k l->
 RR (sOp (.load 25 (.const b)) 25) l fun b f=>
 c (aw a 5) d e b g h i j k f)/\
 (∀ a:Nat->Bool,a 6=false->a 4=true->a 5=true->∀ b d e f g h i j k,c a b d e f g h i j k->
 RR (aJ (.func (.func 118) #[] #[]) [f,e]) k fun d k=>
 c (aw a 6) b d e f g h i j k)/\
 (∀ a:Nat->Bool,a 7=false->a 6=true->a 6=true->a 0=true->a 1=true->a 2=true->a 3=true->a 4=true->a 5=true->a 6=true->∀ b d e f g h i j k,c a b d e f g h i j k->
 c (aw a 7) d d e f g h i j k)/\
 True)/\
 ∀ a:Nat->Bool,a 7=true->a 6=true->a 5=true->a 4=true->a 3=true->a 2=true->a 1=true->a 0=true->∀ b d e f g h i j k,c a b d e f g h i j k->
 R (.returned b) k)) (
 RR (sOp (.fieldAddr 25 (.const a) 1) 0) d fun a c=>
 RR (sOp (.load 3 (.const a)) 3) c fun a c=>
 RR (sOp (.load 25 (.const b)) 25) c fun b c=>
 RR (sOp (.indexAddr 23 (.const p2) (.const a)) 0) c fun a c=>
 RR (sOp (.store 25 (.const a) (.const b)) 0) c fun _ a=>
 R (.returned (.bool true)) a)) (
 (∃ c:Value->World->Prop,(
 RR (sOp (.fieldAddr 25 (.const a) 0) 0) d fun d e=>
 RR (sOp (.load 3 (.const d)) 3) e fun d e=>
 RR (sOp (.fieldAddr 25 (.const b) 0) 0) e fun e f=>
 RR (sOp (.load 3 (.const e)) 3) f fun e f=>
 RR (ar .neq 3 false false d e) f fun d e=>
 ((fun c:VW=>ah d false (
 RR (sOp (.fieldAddr 25 (.const a) 1) 0) e fun a e=>
 RR (sOp (.load 3 (.const a)) 3) e fun a e=>
 RR (sOp (.fieldAddr 25 (.const b) 1) 0) e fun b e=>
 RR (sOp (.load 3 (.const b)) 3) e fun b e=>
 RR (ar .neq 3 false false a b) e fun a b=>
 RR (sOp (.pick (.const d) (.const (.bool true)) (.const a)) 4) b fun a b=>c a b) (
 RR (sOp (.pick (.const d) (.const (.bool true)) (.const undef)) 4) e fun a b=>c a b)) fun d e=>
 ((fun c:VW=>ah d false (
 RR (sOp (.fieldAddr 25 (.const a) 2) 0) e fun a e=>
 RR (sOp (.load 9 (.const a)) 9) e fun a e=>
 RR (sOp (.fieldAddr 25 (.const b) 2) 0) e fun b e=>
 RR (sOp (.load 9 (.const b)) 9) e fun b e=>
 RR (ar .neq 9 false false a b) e fun a b=>
 RR (sOp (.pick (.const d) (.const (.bool true)) (.const a)) 4) b fun a b=>c a b) (
 RR (sOp (.pick (.const d) (.const (.bool true)) (.const undef)) 4) e fun a b=>c a b)) fun d e=>
 ah d false (
 RR (sOp (.fieldAddr 25 (.const a) 3) 0) e fun a e=>
 RR (sOp (.load 23 (.const a)) 23) e fun a e=>
 RR (aq .len #[23] 3 [false] [a]) e fun a e=>
 RR (sOp (.fieldAddr 25 (.const b) 3) 0) e fun b e=>
 RR (sOp (.load 23 (.const b)) 23) e fun b e=>
 RR (aq .len #[23] 3 [false] [b]) e fun b e=>
 RR (ar .neq 3 false false a b) e fun a b=>
 RR (sOp (.pick (.const d) (.const (.bool true)) (.const a)) 4) b fun a b=>
 c a b) (
 RR (sOp (.pick (.const d) (.const (.bool true)) (.const undef)) 4) e fun a b=>
 c a b))))/\
 ∀ d _ _ _ _ _ _ _ _ _ _ _ _ _ _ _ _ _ _ _ _ _ _ _ _ _ _ _:Value,∀ e:World,c d e->
 CondV d (
 R (.returned (.bool false)) e) (
 (∃ (c:Value->World->Prop) (d:Value->World->Nat),c (.int .i64 0) e/\
 ∀ e _ _ _ f g h i j k l m n o p q r _ _ _ _ _:Value,∀ s:World,c e s->
 RR (sOp (.fieldAddr 25 (.const a) 3) 0) s fun t u=>
 RR (sOp (.load 23 (.const t)) 23) u fun t u=>
 RR (aq .len #[23] 3 [false] [t]) u fun t u=>
 RR (ar .lss 3 false false e t) u fun t u=>
 CondV t (
 (∃ t:(Nat->Bool)->Value->Value->Value->Value->Value->Value->Value->Value->Value->Value->Value->Value->Value->World->Prop,t (fun _=>false) f g h i j k l m n o p q r { u with drawn:=u.drawn+1 }/\(
 (∀ b:Nat->Bool,b 0=false->∀ c d e f g h i j k l m n o p,t b c d e f g h i j k l m n o p->
 RR (sOp (.fieldAddr 25 (.const a) 3) 0) p fun a o=>
 t (aw b 0) c d e f g h i j k l m n a o)/\
 (∀ a:Nat->Bool,a 1=false->a 0=true->∀ b c d e f g h i j k l m n o,t a b c d e f g h i j k l m n o->
 RR (sOp (.load 23 (.const n)) 23) o fun m o=>
 t (aw a 1) b c d e f g h i j k l m n o)/\
 (∀ a:Nat->Bool,a 2=false->∀ b c d f g h i j k l m n o p,t a b c d f g h i j k l m n o p->
 t (aw a 2) b c d f g h i j k l e n o p)/\
 (∀ a:Nat->Bool,a 3=false->a 1=true->a 2=true->∀ b c d e f g h i j k l m n o,t a b c d e f g h i j k l m n o->
 RR (sOp (.indexAddr 23 (.const m) (.const l)) 0) o fun k o=>
 t (aw a 3) b c d e f g h i j k l m n o)/\
 (∀ a:Nat->Bool,a 4=false->a 3=true->∀ b c d e f g h i j k l m n o,t a b c d e f g h i j k l m n o->
 RR (sOp (.load 25 (.const k)) 25) o fun j o=>
 t (aw a 4) b c d e f g h i j k l m n o)/\
 (∀ a:Nat->Bool,a 5=false->∀ c d e f g h i j k l m n o p,t a c d e f g h i j k l m n o p->
 RR (sOp (.fieldAddr 25 (.const b) 3) 0) p fun b j=>
 t (aw a 5) c d e f g h i b k l m n o j)/\
 (∀ a:Nat->Bool,a 6=false->a 5=true->∀ b c d e f g h i j k l m n o,t a b c d e f g h i j k l m n o->
 RR (sOp (.load 23 (.const i)) 23) o fun h o=>
 t (aw a 6) b c d e f g h i j k l m n o)/\
 (∀ a:Nat->Bool,a 7=false->∀ b c d f g h i j k l m n o p,t a b c d f g h i j k l m n o p->
 t (aw a 7) b c d f g e i j k l m n o p)/\
 (∀ a:Nat->Bool,a 8=false->a 6=true->a 7=true->∀ b c d e f g h i j k l m n o,t a b c d e f g h i j k l m n o->
 RR (sOp (.indexAddr 23 (.const h) (.const g)) 0) o fun f o=>
 t (aw a 8) b c d e f g h i j k l m n o)/\
 (∀ a:Nat->Bool,a 9=false->a 8=true->∀ b c d e f g h i j k l m n o,t a b c d e f g h i j k l m n o->
 RR (sOp (.load 25 (.const f)) 25) o fun e o=>
 t (aw a 9) b c d e f g h i j k l m n o)/\
 (∀ a:Nat->Bool,a 10=false->∀ b c d e f g h i j k l m n o,t a b c d e f g h i j k l m n o->
 t (aw a 10) b c p2 e f g h i j k l m n o)/\
 (∀ a:Nat->Bool,a 11=false->a 4=true->a 9=true->a 10=true->∀ b c d e f g h i j k l m n o,t a b c d e f g h i j k l m n o->
 RR (aJ (.func (.func 85) #[] #[]) [j,e,d]) o fun c o=>
 t (aw a 11) b c d e f g h i j k l m n o)/\
 (∀ a:Nat->Bool,a 12=false->a 11=true->∀ b c d e f g h i j k l m n o,t a b c d e f g h i j k l m n o->
 RR (sOp (.unOp .not 4 (.const c)) 4) o fun b o=>
 t (aw a 12) b c d e f g h i j k l m n o)/\
 True)/\
 ∀ a:Nat->Bool,a 12=true->a 11=true->a 10=true->a 9=true->a 8=true->a 7=true->a 6=true->a 5=true->a 4=true->a 3=true->a 2=true->a 1=true->a 0=true->∀ b f g h i j k l m n o p q r,t a b f g h i j k l m n o p q r->
 CondV b (
 R (.returned (.bool false)) r) (
 RR (ar .add 3 false true e (.int .i64 1)) r fun a b=>
 c a b/\d a b<d e s))) (
 R (.returned (.bool true)) u)))))
theorem xj {p0 p1 p2:Value} {w:World} {R:Ending->World->Prop} (h:tm p0 p1 p2 w R):Calls Tryz.prog 85 #[p0,p1,p2] w R:=
  aL (.seq none .leaf (.seq none .leaf (.seq none (.seq (some [57]) .leaf .leaf) (.seq none (.seq none .leaf (.one (.loop [7] .leaf))) .leaf)))) [p0,p1,p2] bf Tryz.func85 (by kernel_rfl) (by kernel_rfl) h


/- loop.example/prologserver/impl.scan : function 86 -/
def Cw (p0 p1 p2:Value) (w:World) (R:Ending->World->Prop):Prop:=
 RR (sOp (.box 25 (.const p0)) 0) w fun a b=>
 RR (sOp (.box 3 (.const p1)) 0) b fun b c=>
 RR (sOp (.box 91 (.const p2)) 0) c fun c d=>
 RR (sOp (.load 91 (.const c)) 91) d fun d e=>
 RR (sOp (.nilCheck (.const d)) 0) e fun e f=>
 RR (sOp (.load 3 (.const e)) 3) f fun e f=>
 RR (ar .add 3 false true e (.int .i64 1)) f fun e f=>
 RR (sOp (.nilCheck (.const d)) 0) f fun d f=>
 RR (sOp (.store 3 (.const d) (.const e)) 0) f fun _ d=>
 (∃ e:Value->World->Prop,(
 RR (sOp (.load 91 (.const c)) 91) d fun a c=>
 RR (sOp (.nilCheck (.const a)) 0) c fun a c=>
 RR (sOp (.load 3 (.const a)) 3) c fun a c=>
 RR (ar .gtr 3 false true a (.int .i64 120)) c fun a c=>
 ah a false (
 RR (sOp (.load 3 (.const b)) 3) c fun b c=>
 RR (ar .gtr 3 false true b (.int .i64 30)) c fun b c=>
 RR (sOp (.pick (.const a) (.const (.bool true)) (.const b)) 4) c fun a b=>
 e a b) (
 RR (sOp (.pick (.const a) (.const (.bool true)) (.const undef)) 4) c fun a b=>
 e a b))/\
 ∀ d _ _ _ _ _ _ _:Value,∀ f:World,e d f->
 CondV d (
 R (.returned (.bool false)) f) (
 RR (sOp (.fieldAddr 25 (.const a) 0) 0) f fun d e=>
 RR (sOp (.load 3 (.const d)) 3) e fun d e=>
 RR (ar .eql 3 false true d (.int .i64 1)) e fun e f=>
 CondV e (
 RR (sOp (.fieldAddr 25 (.const a) 1) 0) f fun b c=>
 RR (sOp (.load 3 (.const b)) 3) c fun b c=>
 RR (aJ (.func (.func 126) #[] #[]) [b,(.int .i64 0),(.int .i64 25)]) c fun b c=>
 ((fun d:VW=>ah b true (
 RR (sOp (.fieldAddr 25 (.const a) 2) 0) c fun a c=>
 RR (sOp (.load 9 (.const a)) 9) c fun a c=>
 RR (ar .eql 9 false true a (.string ⟨#[]⟩)) c fun a c=>
 RR (sOp (.pick (.const b) (.const a) (.const (.bool false))) 4) c fun a b=>d a b) (
 RR (sOp (.pick (.const b) (.const undef) (.const (.bool false))) 4) c fun a b=>d a b)) fun b c=>
 ah b true (
 RR (sOp (.fieldAddr 25 (.const a) 3) 0) c fun a c=>
 RR (sOp (.load 23 (.const a)) 23) c fun a c=>
 RR (aq .len #[23] 3 [false] [a]) c fun a c=>
 RR (ar .eql 3 false true a (.int .i64 0)) c fun a c=>
 RR (sOp (.pick (.const b) (.const a) (.const (.bool false))) 4) c fun a b=>
 R (.returned a) b) (
 RR (sOp (.pick (.const b) (.const undef) (.const (.bool false))) 4) c fun a b=>
 R (.returned a) b))) (
 RR (ar .eql 3 false true d (.int .i64 2)) f fun e f=>
 CondV e (
 RR (sOp (.fieldAddr 25 (.const a) 1) 0) f fun b c=>
 RR (sOp (.load 3 (.const b)) 3) c fun b c=>
 RR (aJ (.func (.func 126) #[] #[]) [b,(.int .i64 (-999)),(.int .i64 999)]) c fun b c=>
 ((fun d:VW=>ah b true (
 RR (sOp (.fieldAddr 25 (.const a) 2) 0) c fun a c=>
 RR (sOp (.load 9 (.const a)) 9) c fun a c=>
 RR (ar .eql 9 false true a (.string ⟨#[]⟩)) c fun a c=>
 RR (sOp (.pick (.const b) (.const a) (.const (.bool false))) 4) c fun a b=>d a b) (
 RR (sOp (.pick (.const b) (.const undef) (.const (.bool false))) 4) c fun a b=>d a b)) fun b c=>
 ah b true (
 RR (sOp (.fieldAddr 25 (.const a) 3) 0) c fun a c=>
 RR (sOp (.load 23 (.const a)) 23) c fun a c=>
 RR (aq .len #[23] 3 [false] [a]) c fun a c=>
 RR (ar .eql 3 false true a (.int .i64 0)) c fun a c=>
 RR (sOp (.pick (.const b) (.const a) (.const (.bool false))) 4) c fun a b=>
 R (.returned a) b) (
 RR (sOp (.pick (.const b) (.const undef) (.const (.bool false))) 4) c fun a b=>
 R (.returned a) b))) (
 RR (ar .eql 3 false true d (.int .i64 3)) f fun d e=>
 CondV d (
 (∃ d:Value->World->Prop,(
 RR (sOp (.fieldAddr 25 (.const a) 1) 0) e fun b c=>
 RR (sOp (.load 3 (.const b)) 3) c fun b c=>
 RR (ar .neq 3 false true b (.int .i64 0)) c fun b c=>
 ((fun d:VW=>ah b false (
 RR (sOp (.fieldAddr 25 (.const a) 2) 0) c fun a c=>
 RR (sOp (.load 9 (.const a)) 9) c fun a c=>
 RR (aJ (.func (.func 127) #[] #[]) [a]) c fun a c=>
 RR (sOp (.unOp .not 4 (.const a)) 4) c fun a c=>
 RR (sOp (.pick (.const b) (.const (.bool true)) (.const a)) 4) c fun a b=>d a b) (
 RR (sOp (.pick (.const b) (.const (.bool true)) (.const undef)) 4) c fun a b=>d a b)) fun b c=>
 ah b false (
 RR (sOp (.fieldAddr 25 (.const a) 3) 0) c fun a c=>
 RR (sOp (.load 23 (.const a)) 23) c fun a c=>
 RR (aq .len #[23] 3 [false] [a]) c fun a c=>
 RR (ar .gtr 3 false true a (.int .i64 4)) c fun a c=>
 RR (sOp (.pick (.const b) (.const (.bool true)) (.const a)) 4) c fun a b=>
 d a b) (
 RR (sOp (.pick (.const b) (.const (.bool true)) (.const undef)) 4) c fun a b=>
 d a b)))/\
 ∀ e _ _ _ _ _ _ _ _ _ _ _ _ _ _:Value,∀ f:World,d e f->
 CondV e (
 R (.returned (.bool false)) f) (
 RR (sOp (.fieldAddr 25 (.const a) 3) 0) f fun a d=>
 RR (sOp (.load 23 (.const a)) 23) d fun a d=>
 RR (gP (.func 128) [] [b,c]) d fun b c=>
 RR (aJ (.func (.func 57) #[] #[]) [a,b]) c fun a b=>
 RR (sOp (.unOp .not 4 (.const a)) 4) b fun a b=>
 R (.returned a) b))) (
 R (.returned (.bool false)) e)))))
theorem C2 {p0 p1 p2:Value} {w:World} {R:Ending->World->Prop} (h:Cw p0 p1 p2 w R):Calls Tryz.prog 86 #[p0,p1,p2] w R:=
  aL (.seq none .leaf (.seq none .leaf (.seq none (.seq (some [19]) .leaf .leaf) (.seq none (.seq none .leaf (.one (.seq none .leaf (.two .leaf (.seq none .leaf (.two .leaf (.seq none .leaf (.two (.seq none (.seq (some [70]) .leaf .leaf) .leaf) .leaf)))))))) .leaf)))) [p0,p1,p2] bf Tryz.func86 (by kernel_rfl) (by kernel_rfl) h


/- slices.IndexFunc[[]loop.example/prologserver/impl.Clause,loop.example/prologserver/impl.Clause] : function 87 -/
def g7 (p0 p1:Value) (w:World) (R:Ending->World->Prop):Prop:=
 RR (aq .len #[32] 3 [false] [p0]) w fun a b=>
 (∃ (c:Value->World->Prop) (d:Value->World->Nat),c (.int .i64 0) b/\
 ∀ b _ _ _ _ _ _ _ _ _ _ _ _:Value,∀ e:World,c b e->
 RR (ar .lss 3 false false b a) e fun a f=>
 CondV a (
 RR (sOp (.indexAddr 32 (.const p0) (.const b)) 0) f fun a f=>
 RR (sOp (.load 39 (.const a)) 39) f fun a f=>
 RR (aJ p1 [a]) f fun a f=>
 CondV a (
 R (.returned b) f) (
 RR (ar .add 3 false true b (.int .i64 1)) f fun a f=>
 c a f/\d a f<d b e)) (
 R (.returned (.int .i64 (-1))) f))
theorem kU {p0 p1:Value} {w:World} {R:Ending->World->Prop} (h:g7 p0 p1 w R):Calls Tryz.prog 87 #[p0,p1] w R:=
  aL (.seq none .leaf (.seq none (.seq none .leaf (.one (.loop [8] .leaf))) .leaf)) [p0,p1] bf Tryz.func87 (by kernel_rfl) (by kernel_rfl) h


/- loop.example/prologserver/impl.isFlat : function 88 -/
def wb (p0:Value) (w:World) (R:Ending->World->Prop):Prop:=
 RR (sOp (.box 25 (.const p0)) 0) w fun a b=>
 RR (sOp (.load 25 (.const a)) 25) b fun b c=>
 RR (aJ (.func (.func 54) #[] #[]) [b]) c fun b c=>
 ah b true (
 RR (sOp (.fieldAddr 25 (.const a) 3) 0) c fun a c=>
 RR (sOp (.load 23 (.const a)) 23) c fun a c=>
 RR (aJ (.func (.func 57) #[] #[]) [a,(.func (.func 129) #[] #[])]) c fun a c=>
 RR (sOp (.unOp .not 4 (.const a)) 4) c fun a c=>
 RR (sOp (.pick (.const b) (.const a) (.const (.bool false))) 4) c fun a b=>
 R (.returned a) b) (
 RR (sOp (.pick (.const b) (.const undef) (.const (.bool false))) 4) c fun a b=>
 R (.returned a) b)
theorem yo {p0:Value} {w:World} {R:Ending->World->Prop} (h:wb p0 w R):Calls Tryz.prog 88 #[p0] w R:=
  aL .leaf [p0] bf Tryz.func88 (by kernel_rfl) (by kernel_rfl) h


/- loop.example/prologserver/impl.flatClause$1 : function 89 -/
def j2 (p0:Value) (w:World) (R:Ending->World->Prop):Prop:=
 RR (sOp (.box 25 (.const p0)) 0) w fun a b=>
 RR (sOp (.load 25 (.const a)) 25) b fun a b=>
 RR (aJ (.func (.func 88) #[] #[]) [a]) b fun a b=>
 RR (sOp (.unOp .not 4 (.const a)) 4) b fun a b=>
 R (.returned a) b
theorem om {p0:Value} {w:World} {R:Ending->World->Prop} (h:j2 p0 w R):Calls Tryz.prog 89 #[p0] w R:=
  aL .leaf [p0] bf Tryz.func89 (by kernel_rfl) (by kernel_rfl) h


/- loop.example/prologserver/impl.varsOf : function 90 -/
def vS (p0:Value) (w:World) (R:Ending->World->Prop):Prop:=
 RR (aq .len #[23] 3 [false] [p0]) w fun a b=>
 (∃ (c:Value->Value->World->Prop) (d:Value->Value->World->Nat),c (.int .i64 0) (Value.slice none 0 0) b/\
 ∀ b _ e _ _ _ _ _ _ _:Value,∀ f:World,c b e f->
 RR (ar .lss 3 false false b a) f fun a g=>
 CondV a (
 RR (sOp (.indexAddr 23 (.const p0) (.const b)) 0) g fun a g=>
 RR (sOp (.load 25 (.const a)) 25) g fun a g=>
 RR (sOp (.alloc 25) 0) g fun g h=>
 RR (sOp (.store 25 (.const g) (.const a)) 0) h fun _ a=>
 RR (sOp (.load 25 (.const g)) 25) a fun a g=>
 RR (aJ (.func (.func 92) #[] #[]) [a,e]) g fun a g=>
 RR (ar .add 3 false true b (.int .i64 1)) g fun g h=>
 c g a h/\d g a h<d b e f) (
 R (.returned e) g))
theorem z7 {p0:Value} {w:World} {R:Ending->World->Prop} (h:vS p0 w R):Calls Tryz.prog 90 #[p0] w R:=
  aL (.seq none .leaf (.seq none .leaf (.seq none (.seq none .leaf (.one (.loop [8,3] .leaf))) .leaf))) [p0] bf Tryz.func90 (by kernel_rfl) (by kernel_rfl) h


/- slices.ContainsFunc[[]int,int] : function 91 -/
def hO (p0 p1:Value) (w:World) (R:Ending->World->Prop):Prop:=
 RR (aJ (.func (.func 130) #[] #[]) [p0,p1]) w fun a b=>
 RR (ar .geq 3 false true a (.int .i64 0)) b fun a b=>
 R (.returned a) b
theorem kT {p0 p1:Value} {w:World} {R:Ending->World->Prop} (h:hO p0 p1 w R):Calls Tryz.prog 91 #[p0,p1] w R:=
  aL .leaf [p0,p1] bf Tryz.func91 (by kernel_rfl) (by kernel_rfl) h


/- loop.example/prologserver/impl.addVars : function 92 -/
def rN (p0 p1:Value) (w:World) (R:Ending->World->Prop):Prop:=
 RR (sOp (.box 25 (.const p0)) 0) w fun a b=>
 (∃ c:Value->World->Prop,(
 (∃ d:Value->World->Prop,(
 RR (sOp (.fieldAddr 25 (.const a) 0) 0) b fun b c=>
 RR (sOp (.load 3 (.const b)) 3) c fun b c=>
 RR (ar .eql 3 false true b (.int .i64 1)) c fun b c=>
 ah b true (
 RR (sOp (.fieldAddr 25 (.const a) 1) 0) c fun a c=>
 RR (sOp (.load 3 (.const a)) 3) c fun a c=>
 RR (aJ (.func (.func 94) #[] #[]) [p1,a]) c fun a c=>
 RR (sOp (.unOp .not 4 (.const a)) 4) c fun a c=>
 RR (sOp (.pick (.const b) (.const a) (.const (.bool false))) 4) c fun a b=>
 d a b) (
 RR (sOp (.pick (.const b) (.const undef) (.const (.bool false))) 4) c fun a b=>
 d a b))/\
 ∀ b _ _ _ _ _ _ _ _ _:Value,∀ e:World,d b e->
 CondV b (
 RR (sOp (.fieldAddr 25 (.const a) 1) 0) e fun a b=>
 RR (sOp (.load 3 (.const a)) 3) b fun a b=>
 RR (aS 71 1 [(0,a)]) b fun a b=>
 RR (aq .append #[71,71] 71 [false,false] [p1,a]) b fun a b=>
 c a b) (
 c p1 e)))/\
 ∀ b _ _ _ _ _ _ _ _ _ _ _ _ _ _ _:Value,∀ d:World,c b d->
 RR (sOp (.fieldAddr 25 (.const a) 3) 0) d fun a c=>
 RR (sOp (.load 23 (.const a)) 23) c fun a c=>
 RR (aq .len #[23] 3 [false] [a]) c fun c d=>
 (∃ (e:Value->Value->World->Prop) (f:Value->Value->World->Nat),e (.int .i64 0) b d/\
 ∀ b _ d _ _ _ _ _ _ _:Value,∀ g:World,e b d g->
 RR (ar .lss 3 false false b c) g fun c h=>
 CondV c (
 RR (sOp (.indexAddr 23 (.const a) (.const b)) 0) h fun a c=>
 RR (sOp (.load 25 (.const a)) 25) c fun a c=>
 RR (sOp (.alloc 25) 0) c fun c h=>
 RR (sOp (.store 25 (.const c) (.const a)) 0) h fun _ a=>
 RR (sOp (.load 25 (.const c)) 25) a fun a c=>
 RR (aJ (.func (.func 92) #[] #[]) [a,d]) c fun a c=>
 RR (ar .add 3 false true b (.int .i64 1)) c fun c h=>
 e c a h/\f c a h<f b d g) (
 R (.returned d) h)))
theorem wQ {p0 p1:Value} {w:World} {R:Ending->World->Prop} (h:rN p0 p1 w R):Calls Tryz.prog 92 #[p0,p1] w R:=
  aL (.seq none .leaf (.seq (some [1]) (.seq (some [16]) .leaf .leaf) (.seq none (.seq none .leaf (.one (.loop [25,1] .leaf))) .leaf))) [p0,p1] bf Tryz.func92 (by kernel_rfl) (by kernel_rfl) h


/- loop.example/prologserver/impl.flatClause$2 : function 93 -/
def kH (p0 p1:Value) (w:World) (R:Ending->World->Prop):Prop:=
 RR (sOp (.load 71 (.const p1)) 71) w fun a b=>
 RR (aJ (.func (.func 94) #[] #[]) [a,p0]) b fun a b=>
 RR (sOp (.unOp .not 4 (.const a)) 4) b fun a b=>
 R (.returned a) b
theorem nL {p0 p1:Value} {w:World} {R:Ending->World->Prop} (h:kH p0 p1 w R):Calls Tryz.prog 93 #[p0,p1] w R:=
  aL .leaf [p0,p1] bf Tryz.func93 (by kernel_rfl) (by kernel_rfl) h


/- slices.Contains[[]int,int] : function 94 -/
def kD (p0 p1:Value) (w:World) (R:Ending->World->Prop):Prop:=
 RR (aJ (.func (.func 131) #[] #[]) [p0,p1]) w fun a b=>
 RR (ar .geq 3 false true a (.int .i64 0)) b fun a b=>
 R (.returned a) b
theorem oP {p0 p1:Value} {w:World} {R:Ending->World->Prop} (h:kD p0 p1 w R):Calls Tryz.prog 94 #[p0,p1] w R:=
  aL .leaf [p0,p1] bf Tryz.func94 (by kernel_rfl) (by kernel_rfl) h


/- loop.example/prologserver/impl.round : function 95 -/
def zX (p0 p1:Value) (w:World) (R:Ending->World->Prop):Prop:=
 RR (aJ (.func (.func 38) #[] #[]) [p1]) w fun a b=>
 RR (sOp (.alloc 23) 0) b fun b c=>
 RR (sOp (.store 23 (.const b) (.const a)) 0) c fun _ a=>
 RR (aq .len #[32] 3 [false] [p0]) a fun a c=>
 (∃ (d:Value->World->Prop) (e:Value->World->Nat),d (.int .i64 0) c/\
 ∀ c _ _ _ _ _ _ _ _ _ _:Value,∀ f:World,d c f->
 RR (ar .lss 3 false false c a) f fun a g=>
 CondV a (
 RR (sOp (.indexAddr 32 (.const p0) (.const c)) 0) g fun a g=>
 RR (sOp (.load 39 (.const a)) 39) g fun a g=>
 RR (sOp (.alloc 39) 0) g fun g h=>
 RR (sOp (.store 39 (.const g) (.const a)) 0) h fun _ a=>
 RR (sOp (.load 39 (.const g)) 39) a fun a g=>
 RR (sOp (.makeMap 59 none) 59) g fun g h=>
 RR (gP (.func 132) [] [b]) h fun b h=>
 RR (aJ (.func (.func 66) #[] #[]) [a,(.int .i64 0),p1,g,b]) h fun _ a=>
 RR (ar .add 3 false true c (.int .i64 1)) a fun a b=>
 d a b/\e a b<e c f) (
 (∃ a:(Nat->Bool)->Value->Value->Value->Value->Value->Value->World->Prop,a (fun _=>false) (.bool false) (Value.slice none 0 0) undef undef undef undef { g with drawn:=g.drawn+1 }/\(
 (∀ c:Nat->Bool,c 0=false->∀ d e f g h i j,a c d e f g h i j->
 RR (sOp (.load 23 (.const b)) 23) j fun b i=>
 a (aw c 0) d e f g h b i)/\
 (∀ c:Nat->Bool,c 1=false->∀ d e f g h i j,a c d e f g h i j->
 RR (sOp (.load 23 (.const b)) 23) j fun b h=>
 a (aw c 1) d e f g b i h)/\
 (∀ b:Nat->Bool,b 2=false->b 1=true->∀ c d e f g h i,a b c d e f g h i->
 RR (aq .len #[23] 3 [false] [g]) i fun f i=>
 a (aw b 2) c d e f g h i)/\
 (∀ b:Nat->Bool,b 3=false->b 2=true->∀ c d e f g h i,a b c d e f g h i->
 RR (ar .leq 3 false true f (.int .i64 60)) i fun e i=>
 a (aw b 3) c d e f g h i)/\
 (∀ b:Nat->Bool,b 4=false->b 0=true->b 0=true->∀ c d e f g h i,a b c d e f g h i->
 a (aw b 4) c h e f g h i)/\
 (∀ b:Nat->Bool,b 5=false->b 3=true->b 4=true->b 0=true->b 1=true->b 2=true->b 3=true->b 4=true->∀ c d e f g h i,a b c d e f g h i->
 a (aw b 5) e d e f g h i)/\
 True)/\
 ∀ b:Nat->Bool,b 5=true->b 4=true->b 3=true->b 2=true->b 1=true->b 0=true->∀ c d e f g h i,a b c d e f g h i->
 R (.returned (.tuple #[d,c])) i)))
theorem Bu {p0 p1:Value} {w:World} {R:Ending->World->Prop} (h:zX p0 p1 w R):Calls Tryz.prog 95 #[p0,p1] w R:=
  aL (.seq none .leaf (.seq none .leaf (.seq none (.seq none .leaf (.one (.loop [13] .leaf))) .leaf))) [p0,p1] bf Tryz.func95 (by kernel_rfl) (by kernel_rfl) h


/- loop.example/prologserver/spec.ClauseValid : function 96 -/
def lp (p0:Value) (w:World) (R:Ending->World->Prop):Prop:=
 RR (sOp (.box 39 (.const p0)) 0) w fun a b=>
 (∃ (c:Value->World->Prop) (d:Value->World->Nat),c (.int .i64 0) b/\
 ∀ b _ _ _ _ _ _ _ _ _ _ _ _ _ _ _ _ _ _ _:Value,∀ e:World,c b e->
 (∃ f:Value->World->Prop,(
 RR (sOp (.fieldAddr 39 (.const a) 1) 0) e fun a c=>
 RR (sOp (.load 23 (.const a)) 23) c fun a c=>
 RR (aq .len #[23] 3 [false] [a]) c fun a c=>
 RR (ar .lss 3 false false b a) c fun a c=>
 ah a true (
 RR (ar .leq 3 false true b (.int .i64 6)) c fun b c=>
 RR (sOp (.pick (.const a) (.const b) (.const (.bool false))) 4) c fun a b=>
 f a b) (
 RR (sOp (.pick (.const a) (.const undef) (.const (.bool false))) 4) c fun a b=>
 f a b))/\
 ∀ g _ _ _ _ _ _ _ _:Value,∀ h:World,f g h->
 CondV g (
 RR (sOp (.fieldAddr 39 (.const a) 1) 0) h fun a f=>
 RR (sOp (.load 23 (.const a)) 23) f fun a f=>
 RR (sOp (.indexAddr 23 (.const a) (.const b)) 0) f fun a f=>
 RR (sOp (.load 25 (.const a)) 25) f fun a f=>
 RR (aJ (.func (.func 134) #[] #[]) [a]) f fun a f=>
 RR (sOp (.unOp .not 4 (.const a)) 4) f fun a f=>
 CondV a (
 R (.returned (.bool false)) f) (
 RR (ar .add 3 false true b (.int .i64 1)) f fun a f=>
 c a f/\d a f<d b e)) (
 RR (sOp (.fieldAddr 39 (.const a) 1) 0) h fun b c=>
 RR (sOp (.load 23 (.const b)) 23) c fun b c=>
 RR (aq .len #[23] 3 [false] [b]) c fun b c=>
 RR (ar .leq 3 false true b (.int .i64 6)) c fun b c=>
 ((fun d:VW=>ah b true (
 RR (sOp (.fieldAddr 39 (.const a) 0) 0) c fun a c=>
 RR (sOp (.load 25 (.const a)) 25) c fun a c=>
 RR (aJ (.func (.func 84) #[] #[]) [a]) c fun a c=>
 RR (sOp (.pick (.const b) (.const a) (.const (.bool false))) 4) c fun a b=>d a b) (
 RR (sOp (.pick (.const b) (.const undef) (.const (.bool false))) 4) c fun a b=>d a b)) fun b c=>
 ah b true (
 RR (sOp (.fieldAddr 39 (.const a) 0) 0) c fun a c=>
 RR (sOp (.load 25 (.const a)) 25) c fun a c=>
 RR (aJ (.func (.func 135) #[] #[]) [a]) c fun a c=>
 RR (sOp (.pick (.const b) (.const a) (.const (.bool false))) 4) c fun a b=>
 R (.returned a) b) (
 RR (sOp (.pick (.const b) (.const undef) (.const (.bool false))) 4) c fun a b=>
 R (.returned a) b)))))
theorem pe {p0:Value} {w:World} {R:Ending->World->Prop} (h:lp p0 w R):Calls Tryz.prog 96 #[p0] w R:=
  aL (.seq none .leaf (.seq none (.seq none .leaf (.one (.loop [3] (.seq none (.seq (some [12]) .leaf .leaf) .leaf)))) .leaf)) [p0] bf Tryz.func96 (by kernel_rfl) (by kernel_rfl) h


/- loop.example/prologserver/spec.l16Flat : function 97 -/
def te (p0:Value) (w:World) (R:Ending->World->Prop):Prop:=
 RR (sOp (.box 25 (.const p0)) 0) w fun a b=>
 (∃ (c:Value->World->Prop) (d:Value->World->Nat),c (.int .i64 0) b/\
 ∀ b _ _ _ _ _ _ _ _ _ _ _ _ _ _ _ _:Value,∀ e:World,c b e->
 RR (sOp (.fieldAddr 25 (.const a) 3) 0) e fun f g=>
 RR (sOp (.load 23 (.const f)) 23) g fun f g=>
 RR (aq .len #[23] 3 [false] [f]) g fun f g=>
 RR (ar .lss 3 false false b f) g fun f g=>
 CondV f (
 RR (sOp (.fieldAddr 25 (.const a) 3) 0) g fun a f=>
 RR (sOp (.load 23 (.const a)) 23) f fun a f=>
 RR (sOp (.indexAddr 23 (.const a) (.const b)) 0) f fun a f=>
 RR (sOp (.fieldAddr 25 (.const a) 3) 0) f fun a f=>
 RR (sOp (.load 23 (.const a)) 23) f fun a f=>
 RR (aq .len #[23] 3 [false] [a]) f fun a f=>
 RR (ar .gtr 3 false true a (.int .i64 0)) f fun a f=>
 CondV a (
 R (.returned (.bool false)) f) (
 RR (ar .add 3 false true b (.int .i64 1)) f fun a f=>
 c a f/\d a f<d b e)) (
 RR (sOp (.load 25 (.const a)) 25) g fun a b=>
 RR (aJ (.func (.func 135) #[] #[]) [a]) b fun a b=>
 R (.returned a) b))
theorem xq {p0:Value} {w:World} {R:Ending->World->Prop} (h:te p0 w R):Calls Tryz.prog 97 #[p0] w R:=
  aL (.seq none .leaf (.seq none (.seq none .leaf (.one (.loop [3] .leaf))) .leaf)) [p0] bf Tryz.func97 (by kernel_rfl) (by kernel_rfl) h


/- loop.example/prologserver/spec.l1Vars : function 98 -/
def v6 (p0 p1:Value) (w:World) (R:Ending->World->Prop):Prop:=
 RR (sOp (.box 25 (.const p1)) 0) w fun a b=>
 RR (sOp (.fieldAddr 25 (.const a) 0) 0) b fun b c=>
 RR (sOp (.load 3 (.const b)) 3) c fun b c=>
 RR (ar .eql 3 false true b (.int .i64 1)) c fun b c=>
 CondV b (
 (∃ (b:Value->World->Prop) (d:Value->World->Nat),b (.int .i64 0) c/\
 ∀ c _ _ _ _ e f g h i j k _ _ _ _:Value,∀ l:World,b c l->
 RR (aq .len #[71] 3 [false] [p0]) l fun m n=>
 RR (ar .lss 3 false false c m) n fun m n=>
 CondV m (
 (∃ m:(Nat->Bool)->Value->Value->Value->Value->Value->Value->Value->World->Prop,m (fun _=>false) e f g h i j k { n with drawn:=n.drawn+1 }/\(
 (∀ a:Nat->Bool,a 0=false->∀ b c d e f g h i,m a b c d e f g h i->
 m (aw a 0) b c d e f g p0 i)/\
 (∀ a:Nat->Bool,a 1=false->∀ b d e f g h i j,m a b d e f g h i j->
 m (aw a 1) b d e f g c i j)/\
 (∀ a:Nat->Bool,a 2=false->a 0=true->a 1=true->∀ b c d e f g h i,m a b c d e f g h i->
 RR (sOp (.indexAddr 71 (.const h) (.const g)) 0) i fun f i=>
 m (aw a 2) b c d e f g h i)/\
 (∀ a:Nat->Bool,a 3=false->a 2=true->∀ b c d e f g h i,m a b c d e f g h i->
 RR (sOp (.load 3 (.const f)) 3) i fun e i=>
 m (aw a 3) b c d e f g h i)/\
 (∀ b:Nat->Bool,b 4=false->∀ c d e f g h i j,m b c d e f g h i j->
 RR (sOp (.fieldAddr 25 (.const a) 1) 0) j fun a e=>
 m (aw b 4) c d a f g h i e)/\
 (∀ a:Nat->Bool,a 5=false->a 4=true->∀ b c d e f g h i,m a b c d e f g h i->
 RR (sOp (.load 3 (.const d)) 3) i fun c i=>
 m (aw a 5) b c d e f g h i)/\
 (∀ a:Nat->Bool,a 6=false->a 3=true->a 5=true->∀ b c d e f g h i,m a b c d e f g h i->
 RR (ar .eql 3 false false e c) i fun b i=>
 m (aw a 6) b c d e f g h i)/\
 True)/\
 ∀ a:Nat->Bool,a 6=true->a 5=true->a 4=true->a 3=true->a 2=true->a 1=true->a 0=true->∀ e f g h i j k n,m a e f g h i j k n->
 CondV e (
 R (.returned p0) n) (
 RR (ar .add 3 false true c (.int .i64 1)) n fun a e=>
 b a e/\d a e<d c l))) (
 RR (sOp (.fieldAddr 25 (.const a) 1) 0) n fun a b=>
 RR (sOp (.load 3 (.const a)) 3) b fun a b=>
 RR (aS 71 1 [(0,a)]) b fun a b=>
 RR (aq .append #[71,71] 71 [false,false] [p0,a]) b fun a b=>
 R (.returned a) b))) (
 (∃ (b:Value->Value->World->Prop) (d:Value->Value->World->Nat),b (.int .i64 0) p0 c/\
 ∀ c _ _ e _ _ _ _ _ _ _ _ _ _ _ _:Value,∀ f:World,b c e f->
 RR (sOp (.fieldAddr 25 (.const a) 3) 0) f fun g h=>
 RR (sOp (.load 23 (.const g)) 23) h fun g h=>
 RR (aq .len #[23] 3 [false] [g]) h fun g h=>
 RR (ar .lss 3 false false c g) h fun g h=>
 CondV g (
 RR (sOp (.fieldAddr 25 (.const a) 3) 0) h fun a g=>
 RR (sOp (.load 23 (.const a)) 23) g fun a g=>
 RR (sOp (.indexAddr 23 (.const a) (.const c)) 0) g fun a g=>
 RR (sOp (.load 25 (.const a)) 25) g fun a g=>
 RR (aJ (.func (.func 98) #[] #[]) [e,a]) g fun a g=>
 RR (ar .add 3 false true c (.int .i64 1)) g fun g h=>
 b g a h/\d g a h<d c e f) (
 R (.returned e) h)))
theorem z1 {p0 p1:Value} {w:World} {R:Ending->World->Prop} (h:v6 p0 p1 w R):Calls Tryz.prog 98 #[p0,p1] w R:=
  aL (.seq none .leaf (.seq none (.seq none .leaf (.two (.seq none (.seq none .leaf (.one (.loop [5] .leaf))) .leaf) .leaf)) (.seq none (.seq none .leaf (.one (.loop [6,0] .leaf))) .leaf))) [p0,p1] bf Tryz.func98 (by kernel_rfl) (by kernel_rfl) h


/- loop.example/prologserver/spec.l16In : function 99 -/
def yd (p0 p1:Value) (w:World) (R:Ending->World->Prop):Prop:=
 (∃ (a:Value->World->Prop) (b:Value->World->Nat),a (.int .i64 0) w/\
 ∀ c _ _ _ _ _ _ _ _ _ _ _ _ _:Value,∀ d:World,a c d->
 RR (aq .len #[71] 3 [false] [p0]) d fun e f=>
 RR (ar .lss 3 false false c e) f fun e f=>
 CondV e (
 RR (sOp (.indexAddr 71 (.const p0) (.const c)) 0) f fun e f=>
 RR (sOp (.load 3 (.const e)) 3) f fun e f=>
 RR (ar .eql 3 false false e p1) f fun e f=>
 CondV e (
 R (.returned (.bool true)) f) (
 RR (ar .add 3 false true c (.int .i64 1)) f fun e f=>
 a e f/\b e f<b c d)) (
 R (.returned (.bool false)) f))
theorem AP {p0 p1:Value} {w:World} {R:Ending->World->Prop} (h:yd p0 p1 w R):Calls Tryz.prog 99 #[p0,p1] w R:=
  aL (.seq none .leaf (.seq none (.seq none .leaf (.one (.loop [5] .leaf))) .leaf)) [p0,p1] bf Tryz.func99 (by kernel_rfl) (by kernel_rfl) h


/- loop.example/prologserver/spec.l16Round : function 100 -/
def pA (p0 p1:Value) (w:World) (R:Ending->World->Prop):Prop:=
 (∃ (a:Value->Value->World->Prop) (b:Value->Value->World->Nat),a (.int .i64 0) p1 w/\
 ∀ c _ _ d e f g h i j k l _ _ _ _:Value,∀ m:World,a c d m->
 RR (aq .len #[32] 3 [false] [p0]) m fun n o=>
 RR (ar .lss 3 false false c n) o fun n o=>
 CondV n (
 (∃ n:(Nat->Bool)->Value->Value->Value->Value->Value->Value->Value->Value->Value->World->Prop,n (fun _=>false) d e f g h i j k l { o with drawn:=o.drawn+1 }/\(
 (∀ a:Nat->Bool,a 0=false->∀ b c d e f g h i j k,n a b c d e f g h i j k->
 n (aw a 0) b c d e f g h i b k)/\
 (∀ a:Nat->Bool,a 1=false->∀ b c d e f g h i j k,n a b c d e f g h i j k->
 n (aw a 1) b c d e f g h p0 j k)/\
 (∀ a:Nat->Bool,a 2=false->∀ b d e f g h i j k l,n a b d e f g h i j k l->
 n (aw a 2) b d e f g h c j k l)/\
 (∀ a:Nat->Bool,a 3=false->a 1=true->a 2=true->∀ b c d e f g h i j k,n a b c d e f g h i j k->
 RR (sOp (.indexAddr 32 (.const i) (.const h)) 0) k fun g k=>
 n (aw a 3) b c d e f g h i j k)/\
 (∀ a:Nat->Bool,a 4=false->a 3=true->∀ b c d e f g h i j k,n a b c d e f g h i j k->
 RR (sOp (.load 39 (.const g)) 39) k fun f k=>
 n (aw a 4) b c d e f g h i j k)/\
 (∀ a:Nat->Bool,a 5=false->∀ b c d e f g h i j k,n a b c d e f g h i j k->
 n (aw a 5) b c d p1 f g h i j k)/\
 (∀ a:Nat->Bool,a 6=false->∀ b c d e f g h i j k,n a b c d e f g h i j k->
 RR (sOp (.makeSlice 23 (.const (.int .i64 26)) (.const (.int .i64 26))) 23) k fun d k=>
 n (aw a 6) b c d e f g h i j k)/\
 (∀ a:Nat->Bool,a 7=false->a 0=true->a 4=true->a 5=true->a 6=true->∀ b c d e f g h i j k,n a b c d e f g h i j k->
 RR (aJ (.func (.func 71) #[] #[]) [j,f,(.int .i64 0),e,d]) k fun c k=>
 n (aw a 7) b c d e f g h i j k)/\
 (∀ a:Nat->Bool,a 8=false->a 7=true->a 7=true->a 0=true->a 1=true->a 2=true->a 3=true->a 4=true->a 5=true->a 6=true->a 7=true->∀ b c d e f g h i j k,n a b c d e f g h i j k->
 n (aw a 8) c c d e f g h i j k)/\
 True)/\
 ∀ e:Nat->Bool,e 8=true->e 7=true->e 6=true->e 5=true->e 4=true->e 3=true->e 2=true->e 1=true->e 0=true->∀ f g h i j k l o p q,n e f g h i j k l o p q->
 RR (ar .add 3 false true c (.int .i64 1)) q fun e g=>
 a e f g/\b e f g<b c d m)) (
 R (.returned d) o))
theorem tT {p0 p1:Value} {w:World} {R:Ending->World->Prop} (h:pA p0 p1 w R):Calls Tryz.prog 100 #[p0,p1] w R:=
  aL (.seq none .leaf (.seq none .leaf (.seq none (.seq none .leaf (.one (.loop [6,5] .leaf))) .leaf))) [p0,p1] bf Tryz.func100 (by kernel_rfl) (by kernel_rfl) h


/- loop.example/prologserver/impl.isLetters : function 101 -/
def nX (p0:Value) (w:World) (R:Ending->World->Prop):Prop:=
 RR (aq .len #[9] 3 [false] [p0]) w fun a b=>
 (∃ (c:Value->World->Prop) (d:Value->World->Nat),c (.int .i64 0) b/\
 ∀ b _ _ _ _ _ _ _ _ _ _ _ _ _ _ _:Value,∀ e:World,c b e->
 RR (ar .lss 3 false false b a) e fun a f=>
 CondV a (
 (∃ a:Value->World->Prop,(
 RR (sOp (.index 9 (.const p0) (.const b)) 5) f fun c d=>
 RR (ar .lss 5 false true c (.int .u8 97)) d fun c d=>
 ah c false (
 RR (sOp (.index 9 (.const p0) (.const b)) 5) d fun b d=>
 RR (ar .gtr 5 false true b (.int .u8 122)) d fun b d=>
 RR (sOp (.pick (.const c) (.const (.bool true)) (.const b)) 4) d fun b c=>
 a b c) (
 RR (sOp (.pick (.const c) (.const (.bool true)) (.const undef)) 4) d fun b c=>
 a b c))/\
 ∀ f _ _ _ _ _ _ _ _ _:Value,∀ g:World,a f g->
 CondV f (
 R (.returned (.bool false)) g) (
 RR (ar .add 3 false true b (.int .i64 1)) g fun a f=>
 c a f/\d a f<d b e))) (
 RR (aq .len #[9] 3 [false] [p0]) f fun a b=>
 RR (aJ (.func (.func 126) #[] #[]) [a,(.int .i64 1),(.int .i64 6)]) b fun a b=>
 R (.returned a) b))
theorem rC {p0:Value} {w:World} {R:Ending->World->Prop} (h:nX p0 w R):Calls Tryz.prog 101 #[p0] w R:=
  aL (.seq none .leaf (.seq none (.seq none .leaf (.one (.loop [6] (.seq none .leaf (.seq none .leaf (.seq none (.one (.seq none .leaf (.seq (some [18]) .leaf .leaf))) .leaf)))))) .leaf)) [p0] bf Tryz.func101 (by kernel_rfl) (by kernel_rfl) h


/- loop.example/prologserver/impl.isOp : function 102 -/
def Ca (p0:Value) (w:World) (R:Ending->World->Prop):Prop:=
 RR (aJ (.func (.func 136) #[] #[]) [p0]) w fun a b=>
 RR (sOp (.extract (.const a) 0) 3) b fun b c=>
 RR (sOp (.extract (.const a) 1) 4) c fun _ a=>
 RR (ar .gtr 3 false true b (.int .i64 0)) a fun a b=>
 R (.returned a) b
theorem CQ {p0:Value} {w:World} {R:Ending->World->Prop} (h:Ca p0 w R):Calls Tryz.prog 102 #[p0] w R:=
  aL .leaf [p0] bf Tryz.func102 (by kernel_rfl) (by kernel_rfl) h


/- loop.example/prologserver/impl.isBuilt : function 103 -/
def sA (p0:Value) (w:World) (R:Ending->World->Prop):Prop:=
 RR (sOp (.box 25 (.const p0)) 0) w fun a b=>
 RR (sOp (.fieldAddr 25 (.const a) 0) 0) b fun b c=>
 RR (sOp (.load 3 (.const b)) 3) c fun b c=>
 RR (ar .eql 3 false true b (.int .i64 3)) c fun b c=>
 ah b true (
 RR (sOp (.fieldAddr 25 (.const a) 2) 0) c fun c d=>
 RR (sOp (.load 9 (.const c)) 9) d fun c d=>
 RR (sOp (.fieldAddr 25 (.const a) 3) 0) d fun a d=>
 RR (sOp (.load 23 (.const a)) 23) d fun a d=>
 RR (aq .len #[23] 3 [false] [a]) d fun a d=>
 RR (aJ (.func (.func 137) #[] #[]) [c,a]) d fun a c=>
 RR (sOp (.pick (.const b) (.const a) (.const (.bool false))) 4) c fun a b=>
 R (.returned a) b) (
 RR (sOp (.pick (.const b) (.const undef) (.const (.bool false))) 4) c fun a b=>
 R (.returned a) b)
theorem wZ {p0:Value} {w:World} {R:Ending->World->Prop} (h:sA p0 w R):Calls Tryz.prog 103 #[p0] w R:=
  aL .leaf [p0] bf Tryz.func103 (by kernel_rfl) (by kernel_rfl) h


/- slices.Index[[]string,string] : function 104 -/
def kE (p0 p1:Value) (w:World) (R:Ending->World->Prop):Prop:=
 RR (aq .len #[67] 3 [false] [p0]) w fun a b=>
 (∃ (c:Value->World->Prop) (d:Value->World->Nat),c (.int .i64 0) b/\
 ∀ b _ _ _ _ _ _ _ _ _ _ _ _:Value,∀ e:World,c b e->
 RR (ar .lss 3 false false b a) e fun a f=>
 CondV a (
 RR (sOp (.indexAddr 67 (.const p0) (.const b)) 0) f fun a f=>
 RR (sOp (.load 9 (.const a)) 9) f fun a f=>
 RR (ar .eql 9 false false p1 a) f fun a f=>
 CondV a (
 R (.returned b) f) (
 RR (ar .add 3 false true b (.int .i64 1)) f fun a f=>
 c a f/\d a f<d b e)) (
 R (.returned (.int .i64 (-1))) f))
theorem n4 {p0 p1:Value} {w:World} {R:Ending->World->Prop} (h:kE p0 p1 w R):Calls Tryz.prog 104 #[p0,p1] w R:=
  aL (.seq none .leaf (.seq none (.seq none .leaf (.one (.loop [8] .leaf))) .leaf)) [p0,p1] bf Tryz.func104 (by kernel_rfl) (by kernel_rfl) h


/- loop.example/prologserver/impl.goalsValid : function 105 -/
def mE (p0:Value) (w:World) (R:Ending->World->Prop):Prop:=
 RR (aq .len #[23] 3 [false] [p0]) w fun a b=>
 RR (ar .leq 3 false true a (.int .i64 6)) b fun a b=>
 ah a true (
 RR (aJ (.func (.func 57) #[] #[]) [p0,(.func (.func 138) #[] #[])]) b fun b c=>
 RR (sOp (.unOp .not 4 (.const b)) 4) c fun b c=>
 RR (sOp (.pick (.const a) (.const b) (.const (.bool false))) 4) c fun a b=>
 R (.returned a) b) (
 RR (sOp (.pick (.const a) (.const undef) (.const (.bool false))) 4) b fun a b=>
 R (.returned a) b)
theorem qj {p0:Value} {w:World} {R:Ending->World->Prop} (h:mE p0 w R):Calls Tryz.prog 105 #[p0] w R:=
  aL .leaf [p0] bf Tryz.func105 (by kernel_rfl) (by kernel_rfl) h


/- loop.example/prologserver/spec.l4Mutate : function 106 -/
def pB (p0 p1:Value) (w:World) (R:Ending->World->Prop):Prop:=
 RR (sOp (.box 39 (.const p1)) 0) w fun a b=>
 RR (sOp (.alloc 39) 0) b fun b c=>
 RR (sOp (.load 39 (.const a)) 39) c fun a c=>
 RR (aJ (.func (.func 140) #[] #[]) [a]) c fun a c=>
 RR (sOp (.alloc 39) 0) c fun c d=>
 RR (sOp (.store 39 (.const c) (.const a)) 0) d fun _ a=>
 (∃ d:World->Prop,(
 RR (aJ (.func (.func 69) #[] #[]) [p0,(.int .i64 40)]) a fun a b=>
 RR (ar .eql 3 false true a (.int .i64 0)) b fun b e=>
 CondV b (
 RR (aJ (.func (.func 141) #[] #[]) [p0]) e fun a b=>
 RR (aJ (.func (.func 34) #[] #[]) [p0,a]) b fun a b=>
 RR (sOp (.fieldAddr 39 (.const c) 0) 0) b fun b c=>
 RR (sOp (.store 25 (.const b) (.const a)) 0) c fun _ a=>
 d a) (
 RR (ar .eql 3 false true a (.int .i64 1)) e fun b e=>
 CondV b (
 (∃ a:(Nat->Bool)->Value->Value->Value->Value->Value->Value->Value->Value->Value->World->Prop,a (fun _=>false) undef undef undef undef undef undef undef undef undef { e with drawn:=e.drawn+1 }/\(
 (∀ b:Nat->Bool,b 0=false->∀ d e f g h i j k l m,a b d e f g h i j k l m->
 RR (sOp (.fieldAddr 39 (.const c) 1) 0) m fun c l=>
 a (aw b 0) d e f g h i j k c l)/\
 (∀ b:Nat->Bool,b 1=false->b 0=true->∀ c d e f g h i j k l,a b c d e f g h i j k l->
 RR (sOp (.load 23 (.const k)) 23) l fun j l=>
 a (aw b 1) c d e f g h i j k l)/\
 (∀ b:Nat->Bool,b 2=false->∀ c d e f g h i j k l,a b c d e f g h i j k l->
 a (aw b 2) c d e f g h p0 j k l)/\
 (∀ b:Nat->Bool,b 3=false->∀ c d e f g h i j k l,a b c d e f g h i j k l->
 a (aw b 3) c d e f g p0 i j k l)/\
 (∀ b:Nat->Bool,b 4=false->b 3=true->∀ c d e f g h i j k l,a b c d e f g h i j k l->
 RR (aJ (.func (.func 141) #[] #[]) [h]) l fun g l=>
 a (aw b 4) c d e f g h i j k l)/\
 (∀ b:Nat->Bool,b 5=false->b 2=true->b 4=true->b 4=true->∀ c d e f g h i j k l,a b c d e f g h i j k l->
 RR (aJ (.func (.func 34) #[] #[]) [i,g]) l fun f l=>
 a (aw b 5) c d e f g h i j k l)/\
 (∀ b:Nat->Bool,b 6=false->b 5=true->∀ c d e f g h i j k l,a b c d e f g h i j k l->
 RR (aS 23 1 [(0,f)]) l fun e l=>
 a (aw b 6) c d e f g h i j k l)/\
 (∀ b:Nat->Bool,b 7=false->b 1=true->b 6=true->b 5=true->∀ c d e f g h i j k l,a b c d e f g h i j k l->
 RR (aq .append #[23,23] 23 [false,false] [j,e]) l fun d l=>
 a (aw b 7) c d e f g h i j k l)/\
 (∀ b:Nat->Bool,b 8=false->b 0=true->b 1=true->b 2=true->b 3=true->b 4=true->b 5=true->b 6=true->b 7=true->∀ d e f g h i j k l m,a b d e f g h i j k l m->
 RR (sOp (.fieldAddr 39 (.const c) 1) 0) m fun c d=>
 a (aw b 8) c e f g h i j k l d)/\
 (∀ b:Nat->Bool,b 9=false->b 8=true->b 7=true->b 7=true->b 0=true->b 1=true->b 2=true->b 3=true->b 4=true->b 5=true->b 6=true->b 7=true->∀ c d e f g h i j k l,a b c d e f g h i j k l->
 RR (sOp (.store 23 (.const c) (.const d)) 0) l fun _ l=>
 a (aw b 9) c d e f g h i j k l)/\
 True)/\
 ∀ b:Nat->Bool,b 9=true->b 8=true->b 7=true->b 6=true->b 5=true->b 4=true->b 3=true->b 2=true->b 1=true->b 0=true->∀ c e f g h i j k l m,a b c e f g h i j k l m->
 d m)) (
 RR (ar .eql 3 false true a (.int .i64 2)) e fun b e=>
 CondV b (
 (∃ (a:World->Prop) (b:World->Nat),a e/\
 ∀ e f g h i j _ _ _ _:Value,∀ k:World,a k->
 RR (sOp (.fieldAddr 39 (.const c) 1) 0) k fun l m=>
 RR (sOp (.load 23 (.const l)) 23) m fun l m=>
 RR (aq .len #[23] 3 [false] [l]) m fun l m=>
 RR (ar .leq 3 false true l (.int .i64 6)) m fun l m=>
 CondV l (
 (∃ d:(Nat->Bool)->Value->Value->Value->Value->Value->Value->World->Prop,d (fun _=>false) e f g h i j { m with drawn:=m.drawn+1 }/\(
 (∀ a:Nat->Bool,a 0=false->∀ b e f g h i j,d a b e f g h i j->
 RR (sOp (.fieldAddr 39 (.const c) 1) 0) j fun c i=>
 d (aw a 0) b e f g h c i)/\
 (∀ a:Nat->Bool,a 1=false->a 0=true->∀ b c e f g h i,d a b c e f g h i->
 RR (sOp (.load 23 (.const h)) 23) i fun g i=>
 d (aw a 1) b c e f g h i)/\
 (∀ a:Nat->Bool,a 2=false->∀ b c e f g h i,d a b c e f g h i->
 RR (aJ (.func (.func 78) #[] #[]) [(.string ⟨#[116,114,117,101]⟩),(Value.slice none 0 0)]) i fun f i=>
 d (aw a 2) b c e f g h i)/\
 (∀ a:Nat->Bool,a 3=false->a 2=true->∀ b c e f g h i,d a b c e f g h i->
 RR (aS 23 1 [(0,f)]) i fun e i=>
 d (aw a 3) b c e f g h i)/\
 (∀ a:Nat->Bool,a 4=false->a 1=true->a 3=true->a 2=true->∀ b c e f g h i,d a b c e f g h i->
 RR (aq .append #[23,23] 23 [false,false] [g,e]) i fun c i=>
 d (aw a 4) b c e f g h i)/\
 (∀ a:Nat->Bool,a 5=false->a 0=true->a 1=true->a 2=true->a 3=true->a 4=true->∀ b e f g h i j,d a b e f g h i j->
 RR (sOp (.fieldAddr 39 (.const c) 1) 0) j fun b c=>
 d (aw a 5) b e f g h i c)/\
 (∀ a:Nat->Bool,a 6=false->a 5=true->a 4=true->a 4=true->a 0=true->a 1=true->a 2=true->a 3=true->a 4=true->∀ b c e f g h i,d a b c e f g h i->
 RR (sOp (.store 23 (.const b) (.const c)) 0) i fun _ i=>
 d (aw a 6) b c e f g h i)/\
 True)/\
 ∀ c:Nat->Bool,c 6=true->c 5=true->c 4=true->c 3=true->c 2=true->c 1=true->c 0=true->∀ e f g h i j l,d c e f g h i j l->
 a l/\b l<b k)) (
 d m))) (
 RR (ar .eql 3 false true a (.int .i64 3)) e fun a b=>
 CondV a (
 RR (aS 67 5 [(0,(.string ⟨#[116,114,117,101]⟩)),(1,(.string ⟨#[105,115]⟩)),(2,(.string ⟨#[61]⟩)),(3,(.string ⟨#[109,111,100]⟩)),(4,(.string ⟨#[113]⟩))]) b fun a b=>
 RR (aJ (.func (.func 76) #[] #[]) [p0,a]) b fun a b=>
 RR (sOp (.fieldAddr 39 (.const c) 0) 0) b fun b c=>
 RR (sOp (.fieldAddr 25 (.const b) 2) 0) c fun b c=>
 RR (sOp (.store 9 (.const b) (.const a)) 0) c fun _ a=>
 d a) (
 d b)))))/\
 ∀ _ _ _ _ _ _ _ _ _ _ _ _ _ _ _ _ _ _ _ _ _ _ _ _ _ _ _ _ _ _ _ _ _ _ _ _ _ _ _:Value,∀ a:World,d a->
 RR (sOp (.load 39 (.const c)) 39) a fun a c=>
 RR (sOp (.store 39 (.const b) (.const a)) 0) c fun _ a=>
 (be Tryz.prog 39 b a fun b=>R (.returned b) a))
theorem tD {p0 p1:Value} {w:World} {R:Ending->World->Prop} (h:pB p0 p1 w R):Calls Tryz.prog 106 #[p0,p1] w R:=
  aL (.seq none .leaf (.seq none .leaf (.seq (some []) (.seq none .leaf (.one (.seq none .leaf (.two .leaf (.seq none .leaf (.two .leaf (.seq none .leaf (.two (.one (.loop [] .leaf)) .leaf)))))))) .leaf))) [p0,p1] bf Tryz.func106 (by kernel_rfl) (by kernel_rfl) h


/- cmp.Or[int] : function 107 -/
def u7 (p0:Value) (w:World) (R:Ending->World->Prop):Prop:=
 RR (aq .len #[71] 3 [false] [p0]) w fun a b=>
 (∃ (c:Value->World->Prop) (d:Value->World->Nat),c (.int .i64 0) b/\
 ∀ b _ _ _ _ _ _ _ _ _ _:Value,∀ e:World,c b e->
 RR (ar .lss 3 false false b a) e fun a f=>
 CondV a (
 RR (sOp (.indexAddr 71 (.const p0) (.const b)) 0) f fun a f=>
 RR (sOp (.load 3 (.const a)) 3) f fun a f=>
 RR (ar .neq 3 false false a (.int .i64 0)) f fun f g=>
 CondV f (
 R (.returned a) g) (
 RR (ar .add 3 false true b (.int .i64 1)) g fun a f=>
 c a f/\d a f<d b e)) (
 R (.returned (.int .i64 0)) f))
theorem Ab {p0:Value} {w:World} {R:Ending->World->Prop} (h:u7 p0 w R):Calls Tryz.prog 107 #[p0] w R:=
  aL (.seq none .leaf (.seq none .leaf (.seq none (.seq none .leaf (.one (.loop [8] .leaf))) .leaf))) [p0] bf Tryz.func107 (by kernel_rfl) (by kernel_rfl) h


/- cmp.Compare[int] : function 108 -/
def lT (p0 p1:Value) (w:World) (R:Ending->World->Prop):Prop:=
 RR (aJ (.func (.func 142) #[] #[]) [p0]) w fun a b=>
 RR (aJ (.func (.func 142) #[] #[]) [p1]) b fun b c=>
 CondV a (
 CondV b (
 R (.returned (.int .i64 0)) c) (
 R (.returned (.int .i64 (-1))) c)) (
 CondV b (
 R (.returned (.int .i64 1)) c) (
 RR (ar .lss 3 false false p0 p1) c fun a b=>
 CondV a (
 R (.returned (.int .i64 (-1))) b) (
 RR (ar .gtr 3 false false p0 p1) b fun a b=>
 CondV a (
 R (.returned (.int .i64 1)) b) (
 R (.returned (.int .i64 0)) b))))
theorem ph {p0 p1:Value} {w:World} {R:Ending->World->Prop} (h:lT p0 p1 w R):Calls Tryz.prog 108 #[p0,p1] w R:=
  aL .leaf [p0,p1] bf Tryz.func108 (by kernel_rfl) (by kernel_rfl) h


/- loop.example/prologserver/impl.rank : function 109 -/
def Co (p0:Value) (w:World) (R:Ending->World->Prop):Prop:=
 RR (sOp (.box 25 (.const p0)) 0) w fun a b=>
 RR (sOp (.fieldAddr 25 (.const a) 0) 0) b fun b c=>
 RR (sOp (.load 3 (.const b)) 3) c fun b c=>
 RR (ar .eql 3 false true b (.int .i64 1)) c fun b c=>
 CondV b (
 R (.returned (.int .i64 0)) c) (
 RR (sOp (.fieldAddr 25 (.const a) 0) 0) c fun b c=>
 RR (sOp (.load 3 (.const b)) 3) c fun b c=>
 RR (ar .eql 3 false true b (.int .i64 2)) c fun b c=>
 CondV b (
 R (.returned (.int .i64 1)) c) (
 RR (sOp (.fieldAddr 25 (.const a) 3) 0) c fun a b=>
 RR (sOp (.load 23 (.const a)) 23) b fun a b=>
 RR (aq .len #[23] 3 [false] [a]) b fun a b=>
 RR (ar .eql 3 false true a (.int .i64 0)) b fun a b=>
 CondV a (
 R (.returned (.int .i64 2)) b) (
 R (.returned (.int .i64 3)) b)))
theorem D7 {p0:Value} {w:World} {R:Ending->World->Prop} (h:Co p0 w R):Calls Tryz.prog 109 #[p0] w R:=
  aL .leaf [p0] bf Tryz.func109 (by kernel_rfl) (by kernel_rfl) h


/- cmp.Compare[string] : function 110 -/
def iV (p0 p1:Value) (w:World) (R:Ending->World->Prop):Prop:=
 RR (aJ (.func (.func 143) #[] #[]) [p0]) w fun a b=>
 RR (aJ (.func (.func 143) #[] #[]) [p1]) b fun b c=>
 CondV a (
 CondV b (
 R (.returned (.int .i64 0)) c) (
 R (.returned (.int .i64 (-1))) c)) (
 CondV b (
 R (.returned (.int .i64 1)) c) (
 RR (ar .lss 9 false false p0 p1) c fun a b=>
 CondV a (
 R (.returned (.int .i64 (-1))) b) (
 RR (ar .gtr 9 false false p0 p1) b fun a b=>
 CondV a (
 R (.returned (.int .i64 1)) b) (
 R (.returned (.int .i64 0)) b))))
theorem me {p0 p1:Value} {w:World} {R:Ending->World->Prop} (h:iV p0 p1 w R):Calls Tryz.prog 110 #[p0,p1] w R:=
  aL .leaf [p0,p1] bf Tryz.func110 (by kernel_rfl) (by kernel_rfl) h


/- slices.CompareFunc[[]loop.example/prologserver/impl.Term,[]loop.example/prologserver/impl.Term,loop.example/prologserver/impl.Term,loop.example/prologserver/impl.Term] : function 111 -/
def hG (p0 p1 p2:Value) (w:World) (R:Ending->World->Prop):Prop:=
 RR (aq .len #[23] 3 [false] [p0]) w fun a b=>
 (∃ (c:Value->World->Prop) (d:Value->World->Nat),c (.int .i64 0) b/\
 ∀ b _ _ _ _ _ _ _ _ _ _ _ _ _ _ _ _ _ _ _ _ _ _ _ _ _:Value,∀ e:World,c b e->
 RR (ar .lss 3 false false b a) e fun a f=>
 CondV a (
 RR (sOp (.indexAddr 23 (.const p0) (.const b)) 0) f fun a f=>
 RR (sOp (.load 25 (.const a)) 25) f fun a f=>
 RR (sOp (.alloc 25) 0) f fun f g=>
 RR (sOp (.store 25 (.const f) (.const a)) 0) g fun _ a=>
 RR (aq .len #[23] 3 [false] [p1]) a fun a g=>
 RR (ar .geq 3 false false b a) g fun a g=>
 CondV a (
 R (.returned (.int .i64 1)) g) (
 RR (sOp (.indexAddr 23 (.const p1) (.const b)) 0) g fun a g=>
 RR (sOp (.load 25 (.const a)) 25) g fun a g=>
 RR (sOp (.alloc 25) 0) g fun g h=>
 RR (sOp (.store 25 (.const g) (.const a)) 0) h fun _ a=>
 RR (sOp (.load 25 (.const f)) 25) a fun a f=>
 RR (sOp (.load 25 (.const g)) 25) f fun f g=>
 RR (aJ p2 [a,f]) g fun a f=>
 RR (ar .neq 3 false true a (.int .i64 0)) f fun f g=>
 CondV f (
 R (.returned a) g) (
 RR (ar .add 3 false true b (.int .i64 1)) g fun a f=>
 c a f/\d a f<d b e))) (
 RR (aq .len #[23] 3 [false] [p0]) f fun a b=>
 RR (aq .len #[23] 3 [false] [p1]) b fun b c=>
 RR (ar .lss 3 false false a b) c fun a b=>
 CondV a (
 R (.returned (.int .i64 (-1))) b) (
 R (.returned (.int .i64 0)) b)))
theorem kV {p0 p1 p2:Value} {w:World} {R:Ending->World->Prop} (h:hG p0 p1 p2 w R):Calls Tryz.prog 111 #[p0,p1,p2] w R:=
  aL (.seq none .leaf (.seq none (.seq none .leaf (.one (.loop [13] .leaf))) .leaf)) [p0,p1,p2] bf Tryz.func111 (by kernel_rfl) (by kernel_rfl) h


/- loop.example/prologserver/impl.mapVars : function 112 -/
def sv (p0 p1:Value) (w:World) (R:Ending->World->Prop):Prop:=
 RR (sOp (.box 25 (.const p0)) 0) w fun a b=>
 RR (sOp (.alloc 25) 0) b fun b c=>
 RR (sOp (.fieldAddr 25 (.const a) 0) 0) c fun c d=>
 RR (sOp (.load 3 (.const c)) 3) d fun c d=>
 RR (ar .eql 3 false true c (.int .i64 1)) d fun c d=>
 CondV c (
 RR (sOp (.fieldAddr 25 (.const a) 1) 0) d fun a c=>
 RR (sOp (.load 3 (.const a)) 3) c fun a c=>
 RR (aJ p1 [a]) c fun a c=>
 RR (sOp (.store 25 (.const b) (.const a)) 0) c fun _ a=>
 (be Tryz.prog 25 b a fun b=>R (.returned b) a)) (
 RR (sOp (.fieldAddr 25 (.const a) 3) 0) d fun c d=>
 RR (sOp (.load 23 (.const c)) 23) d fun c d=>
 RR (sOp (.fieldAddr 25 (.const a) 3) 0) d fun d e=>
 RR (sOp (.store 23 (.const d) (.const (Value.slice none 0 0))) 0) e fun _ d=>
 RR (aq .len #[23] 3 [false] [c]) d fun d e=>
 (∃ (f:Value->World->Prop) (g:Value->World->Nat),f (.int .i64 0) e/\
 ∀ e _ h i j k l m n o _ _ _ _:Value,∀ p:World,f e p->
 RR (ar .lss 3 false false e d) p fun d q=>
 CondV d (
 RR (sOp (.indexAddr 23 (.const c) (.const e)) 0) q fun b c=>
 RR (sOp (.load 25 (.const b)) 25) c fun b c=>
 RR (sOp (.alloc 25) 0) c fun c d=>
 RR (sOp (.store 25 (.const c) (.const b)) 0) d fun _ b=>
 (∃ d:(Nat->Bool)->Value->Value->Value->Value->Value->Value->Value->Value->World->Prop,d (fun _=>false) h i j k l m n o { b with drawn:=b.drawn+1 }/\(
 (∀ b:Nat->Bool,b 0=false->∀ c e f g h i j k l,d b c e f g h i j k l->
 RR (sOp (.fieldAddr 25 (.const a) 3) 0) l fun a k=>
 d (aw b 0) c e f g h i j a k)/\
 (∀ a:Nat->Bool,a 1=false->a 0=true->∀ b c e f g h i j k,d a b c e f g h i j k->
 RR (sOp (.load 23 (.const j)) 23) k fun i k=>
 d (aw a 1) b c e f g h i j k)/\
 (∀ a:Nat->Bool,a 2=false->∀ b e f g h i j k l,d a b e f g h i j k l->
 RR (sOp (.load 25 (.const c)) 25) l fun c i=>
 d (aw a 2) b e f g h c j k i)/\
 (∀ a:Nat->Bool,a 3=false->∀ b c e f g h i j k,d a b c e f g h i j k->
 d (aw a 3) b c e f p1 h i j k)/\
 (∀ a:Nat->Bool,a 4=false->a 2=true->a 3=true->∀ b c e f g h i j k,d a b c e f g h i j k->
 RR (aJ (.func (.func 112) #[] #[]) [h,g]) k fun f k=>
 d (aw a 4) b c e f g h i j k)/\
 (∀ a:Nat->Bool,a 5=false->a 4=true->∀ b c e f g h i j k,d a b c e f g h i j k->
 RR (aS 23 1 [(0,f)]) k fun e k=>
 d (aw a 5) b c e f g h i j k)/\
 (∀ a:Nat->Bool,a 6=false->a 1=true->a 5=true->a 4=true->∀ b c e f g h i j k,d a b c e f g h i j k->
 RR (aq .append #[23,23] 23 [false,false] [i,e]) k fun c k=>
 d (aw a 6) b c e f g h i j k)/\
 (∀ b:Nat->Bool,b 7=false->b 0=true->b 1=true->b 2=true->b 3=true->b 4=true->b 5=true->b 6=true->∀ c e f g h i j k l,d b c e f g h i j k l->
 RR (sOp (.fieldAddr 25 (.const a) 3) 0) l fun a c=>
 d (aw b 7) a e f g h i j k c)/\
 (∀ a:Nat->Bool,a 8=false->a 7=true->a 6=true->a 6=true->a 0=true->a 1=true->a 2=true->a 3=true->a 4=true->a 5=true->a 6=true->∀ b c e f g h i j k,d a b c e f g h i j k->
 RR (sOp (.store 23 (.const b) (.const c)) 0) k fun _ k=>
 d (aw a 8) b c e f g h i j k)/\
 True)/\
 ∀ a:Nat->Bool,a 8=true->a 7=true->a 6=true->a 5=true->a 4=true->a 3=true->a 2=true->a 1=true->a 0=true->∀ b c h i j k l m n,d a b c h i j k l m n->
 RR (ar .add 3 false true e (.int .i64 1)) n fun a b=>
 f a b/\g a b<g e p)) (
 RR (sOp (.load 25 (.const a)) 25) q fun a c=>
 RR (sOp (.store 25 (.const b) (.const a)) 0) c fun _ a=>
 (be Tryz.prog 25 b a fun b=>R (.returned b) a))))
theorem xH {p0 p1:Value} {w:World} {R:Ending->World->Prop} (h:sv p0 p1 w R):Calls Tryz.prog 112 #[p0,p1] w R:=
  aL (.seq none .leaf (.seq none .leaf (.seq none .leaf (.seq none .leaf (.seq none (.seq none .leaf (.one (.loop [20] .leaf))) .leaf))))) [p0,p1] bf Tryz.func112 (by kernel_rfl) (by kernel_rfl) h


/- loop.example/prologserver/impl.follows$1 : function 113 -/
def oT (p0 p1:Value) (w:World) (R:Ending->World->Prop):Prop:=
 RR (sOp (.alloc 25) 0) w fun a b=>
 RR (sOp (.load 59 (.const p1)) 59) b fun b c=>
 RR (sOp (.lookup 59 (.const b) (.const p0) false) 25) c fun b c=>
 RR (sOp (.store 25 (.const a) (.const b)) 0) c fun _ b=>
 (be Tryz.prog 25 a b fun a=>R (.returned a) b)
theorem sz {p0 p1:Value} {w:World} {R:Ending->World->Prop} (h:oT p0 p1 w R):Calls Tryz.prog 113 #[p0,p1] w R:=
  aL .leaf [p0,p1] bf Tryz.func113 (by kernel_rfl) (by kernel_rfl) h


/- maps.Clone[map[int]loop.example/prologserver/impl.Term,int,loop.example/prologserver/impl.Term] : function 114 -/
def lO (p0:Value) (w:World) (R:Ending->World->Prop):Prop:=
 RR (ar .eql 59 false true p0 (Value.map none)) w fun a b=>
 CondV a (
 R (.returned (Value.map none)) b) (
 RR (sOp (.makeInterface 59 (.const p0)) 20) b fun a b=>
 RR (aJ (.func (.func 144) #[] #[]) [a]) b fun a b=>
 RR (sOp (.typeAssert (.const a) 20 59 false) 59) b fun a b=>
 R (.returned a) b)
theorem o6 {p0:Value} {w:World} {R:Ending->World->Prop} (h:lO p0 w R):Calls Tryz.prog 114 #[p0] w R:=
  aL .leaf [p0] bf Tryz.func114 (by kernel_rfl) (by kernel_rfl) h


/- loop.example/prologserver/spec.l16Put : function 115 -/
def vM (p0 p1:Value) (w:World) (R:Ending->World->Prop):Prop:=
 RR (sOp (.box 25 (.const p1)) 0) w fun a b=>
 (∃ (c:Value->World->Prop) (d:Value->World->Nat),c (.int .i64 0) b/\
 ∀ b _ _ e f g h i j k l m n o p q:Value,∀ r:World,c b r->
 (∃ s:(Nat->Bool)->Value->Value->Value->Value->Value->Value->Value->Value->Value->Value->Value->Value->Value->World->Prop,s (fun _=>false) e f g h i j k l m n o p q { r with drawn:=r.drawn+1 }/\(
 (∀ a:Nat->Bool,a 0=false->∀ c d e f g h i j k l m n o p,s a c d e f g h i j k l m n o p->
 s (aw a 0) c d e f g h i j k l m n b p)/\
 (∀ a:Nat->Bool,a 1=false->∀ b c d e f g h i j k l m n o,s a b c d e f g h i j k l m n o->
 s (aw a 1) b c d e f g h i j k l p0 n o)/\
 (∀ a:Nat->Bool,a 2=false->a 1=true->∀ b c d e f g h i j k l m n o,s a b c d e f g h i j k l m n o->
 RR (aq .len #[23] 3 [false] [m]) o fun l o=>
 s (aw a 2) b c d e f g h i j k l m n o)/\
 (∀ a:Nat->Bool,a 3=false->a 0=true->a 2=true->∀ b c d e f g h i j k l m n o,s a b c d e f g h i j k l m n o->
 RR (ar .lss 3 false false n l) o fun k o=>
 s (aw a 3) b c d e f g h i j k l m n o)/\
 (∀ a:Nat->Bool,a 4=false->a 3=true->∀ b c d e f g h i j k l m n o,s a b c d e f g h i j k l m n o->
 s (aw a 4) b c d e f g h i k k l m n o)/\
 (∀ a:Nat->Bool,a 5=false->a 4=true->∀ b c d e f g h i j k l m n o,s a b c d e f g h i j k l m n o->
 ah j true (s (aw a 5) b c d e f g h p0 j k l m n o) (s (aw a 5) b c d e f g h undef j k l m n o))/\
 (∀ a:Nat->Bool,a 6=false->a 4=true->∀ c d e f g h i j k l m n o p,s a c d e f g h i j k l m n o p->
 ah k true (s (aw a 6) c d e f g h b j k l m n o p) (s (aw a 6) c d e f g h undef j k l m n o p))/\
 (∀ a:Nat->Bool,a 7=false->a 5=true->a 6=true->a 4=true->∀ b c d e f g h i j k l m n o,s a b c d e f g h i j k l m n o->
 ah j true (RR (sOp (.indexAddr 23 (.const i) (.const h)) 0) o fun g o=>
 s (aw a 7) b c d e f g h i j k l m n o) (s (aw a 7) b c d e f undef h i j k l m n o))/\
 (∀ a:Nat->Bool,a 8=false->a 7=true->a 4=true->∀ b c d e f g h i j k l m n o,s a b c d e f g h i j k l m n o->
 ah j true (RR (sOp (.load 25 (.const g)) 25) o fun f o=>
 s (aw a 8) b c d e f g h i j k l m n o) (s (aw a 8) b c d e undef g h i j k l m n o))/\
 (∀ b:Nat->Bool,b 9=false->b 4=true->∀ c d e f g h i j k l m n o p,s b c d e f g h i j k l m n o p->
 ah k true (RR (sOp (.load 25 (.const a)) 25) p fun a f=>
 s (aw b 9) c d e a g h i j k l m n o f) (s (aw b 9) c d e undef g h i j k l m n o p))/\
 (∀ a:Nat->Bool,a 10=false->a 8=true->a 9=true->a 4=true->a 4=true->∀ b c d e f g h i j k l m n o,s a b c d e f g h i j k l m n o->
 ah j true (RR (aJ (.func (.func 145) #[] #[]) [f,e]) o fun d o=>
 s (aw a 10) b c d e f g h i j k l m n o) (s (aw a 10) b c undef e f g h i j k l m n o))/\
 (∀ a:Nat->Bool,a 11=false->a 10=true->a 4=true->∀ b c d e f g h i j k l m n o,s a b c d e f g h i j k l m n o->
 ah j true (RR (ar .lss 3 false true d (.int .i64 0)) o fun c o=>
 s (aw a 11) b c d e f g h i j k l m n o) (s (aw a 11) b undef d e f g h i j k l m n o))/\
 (∀ a:Nat->Bool,a 12=false->a 4=true->a 11=true->∀ b c d e f g h i j k l m n o,s a b c d e f g h i j k l m n o->
 RR (sOp (.pick (.const j) (.const c) (.const (.bool false))) 4) o fun b o=>
 s (aw a 12) b c d e f g h i j k l m n o)/\
 True)/\
 ∀ e:Nat->Bool,e 12=true->e 11=true->e 10=true->e 9=true->e 8=true->e 7=true->e 6=true->e 5=true->e 4=true->e 3=true->e 2=true->e 1=true->e 0=true->∀ f g h i j k l m n o p q t u,s e f g h i j k l m n o p q t u->
 CondV f (
 RR (ar .add 3 false true b (.int .i64 1)) u fun a e=>
 c a e/\d a e<d b r) (
 (∃ c:(Nat->Bool)->Value->Value->Value->Value->Value->Value->Value->Value->Value->Value->Value->Value->World->Prop,c (fun _=>false) undef undef undef undef undef undef undef undef undef undef undef undef { u with drawn:=u.drawn+1 }/\(
 (∀ a:Nat->Bool,a 0=false->∀ d e f g h i j k l m n o p,c a d e f g h i j k l m n o p->
 c (aw a 0) d e f g h i j k l m n b p)/\
 (∀ a:Nat->Bool,a 1=false->∀ b d e f g h i j k l m n o,c a b d e f g h i j k l m n o->
 c (aw a 1) b d e f g h i j k l p0 n o)/\
 (∀ a:Nat->Bool,a 2=false->a 1=true->∀ b d e f g h i j k l m n o,c a b d e f g h i j k l m n o->
 RR (aq .len #[23] 3 [false] [m]) o fun l o=>
 c (aw a 2) b d e f g h i j k l m n o)/\
 (∀ a:Nat->Bool,a 3=false->a 0=true->a 2=true->∀ b d e f g h i j k l m n o,c a b d e f g h i j k l m n o->
 RR (ar .lss 3 false false n l) o fun k o=>
 c (aw a 3) b d e f g h i j k l m n o)/\
 (∀ a:Nat->Bool,a 4=false->a 3=true->∀ b d e f g h i j k l m n o,c a b d e f g h i j k l m n o->
 c (aw a 4) b d e f g h i k k l m n o)/\
 (∀ a:Nat->Bool,a 5=false->a 4=true->∀ b d e f g h i j k l m n o,c a b d e f g h i j k l m n o->
 ah j true (c (aw a 5) b d e f g h p0 j k l m n o) (c (aw a 5) b d e f g h undef j k l m n o))/\
 (∀ a:Nat->Bool,a 6=false->a 4=true->∀ d e f g h i j k l m n o p,c a d e f g h i j k l m n o p->
 ah k true (c (aw a 6) d e f g h b j k l m n o p) (c (aw a 6) d e f g h undef j k l m n o p))/\
 (∀ a:Nat->Bool,a 7=false->a 5=true->a 6=true->a 4=true->∀ b d e f g h i j k l m n o,c a b d e f g h i j k l m n o->
 ah j true (RR (sOp (.indexAddr 23 (.const i) (.const h)) 0) o fun g o=>
 c (aw a 7) b d e f g h i j k l m n o) (c (aw a 7) b d e f undef h i j k l m n o))/\
 (∀ a:Nat->Bool,a 8=false->a 7=true->a 4=true->∀ b d e f g h i j k l m n o,c a b d e f g h i j k l m n o->
 ah j true (RR (sOp (.load 25 (.const g)) 25) o fun f o=>
 c (aw a 8) b d e f g h i j k l m n o) (c (aw a 8) b d e undef g h i j k l m n o))/\
 (∀ b:Nat->Bool,b 9=false->b 4=true->∀ d e f g h i j k l m n o p,c b d e f g h i j k l m n o p->
 ah k true (RR (sOp (.load 25 (.const a)) 25) p fun a f=>
 c (aw b 9) d e a g h i j k l m n o f) (c (aw b 9) d e undef g h i j k l m n o p))/\
 (∀ a:Nat->Bool,a 10=false->a 8=true->a 9=true->a 4=true->a 4=true->∀ b d e f g h i j k l m n o,c a b d e f g h i j k l m n o->
 ah j true (RR (aJ (.func (.func 118) #[] #[]) [f,e]) o fun d o=>
 c (aw a 10) b d e f g h i j k l m n o) (c (aw a 10) b undef e f g h i j k l m n o))/\
 (∀ a:Nat->Bool,a 11=false->a 4=true->a 10=true->∀ b d e f g h i j k l m n o,c a b d e f g h i j k l m n o->
 RR (sOp (.pick (.const j) (.const d) (.const (.bool false))) 4) o fun b o=>
 c (aw a 11) b d e f g h i j k l m n o)/\
 True)/\
 ∀ d:Nat->Bool,d 11=true->d 10=true->d 9=true->d 8=true->d 7=true->d 6=true->d 5=true->d 4=true->d 3=true->d 2=true->d 1=true->d 0=true->∀ e f g h i j k l m n o p q,c d e f g h i j k l m n o p q->
 CondV e (
 R (.returned p0) q) (
 RR (aS 23 0 []) q fun c d=>
 RR (sOp (.slice 23 (.const p0) none (some (.const b)) none) 23) d fun d e=>
 RR (aq .append #[23,23] 23 [false,false] [c,d]) e fun c d=>
 RR (sOp (.load 25 (.const a)) 25) d fun a d=>
 RR (aS 23 1 [(0,a)]) d fun a d=>
 RR (aq .append #[23,23] 23 [false,false] [c,a]) d fun a c=>
 RR (sOp (.slice 23 (.const p0) (some (.const b)) none none) 23) c fun b c=>
 RR (aq .append #[23,23] 23 [false,false] [a,b]) c fun a b=>
 R (.returned a) b)))))
theorem zZ {p0 p1:Value} {w:World} {R:Ending->World->Prop} (h:vM p0 p1 w R):Calls Tryz.prog 115 #[p0,p1] w R:=
  aL (.seq none .leaf (.seq none .leaf (.seq none (.one (.loop [5] .leaf)) .leaf))) [p0,p1] bf Tryz.func115 (by kernel_rfl) (by kernel_rfl) h


/- loop.example/prologserver/spec.l16Full : function 116 -/
def rJ (p0 p1:Value) (w:World) (R:Ending->World->Prop):Prop:=
 RR (sOp (.box 25 (.const p0)) 0) w fun a b=>
 RR (sOp (.alloc 25) 0) b fun b c=>
 RR (sOp (.fieldAddr 25 (.const a) 0) 0) c fun c d=>
 RR (sOp (.load 3 (.const c)) 3) d fun c d=>
 RR (sOp (.fieldAddr 25 (.const a) 2) 0) d fun d e=>
 RR (sOp (.load 9 (.const d)) 9) e fun d e=>
 RR (dD 25 [(0,c),(2,d)]) e fun c d=>
 RR (sOp (.alloc 25) 0) d fun d e=>
 RR (sOp (.store 25 (.const d) (.const c)) 0) e fun _ c=>
 (∃ (e:Value->World->Prop) (f:Value->World->Nat),e (.int .i64 0) c/\
 ∀ c _ _ g h i j k l m _ _ _ _ _ _ _ _ _ _ _ _ _ _ _ _ _ _ _:Value,∀ n:World,e c n->
 RR (sOp (.fieldAddr 25 (.const a) 3) 0) n fun o p=>
 RR (sOp (.load 23 (.const o)) 23) p fun o p=>
 RR (aq .len #[23] 3 [false] [o]) p fun o p=>
 RR (ar .lss 3 false false c o) p fun o p=>
 CondV o (
 RR (sOp (.fieldAddr 25 (.const a) 3) 0) p fun a b=>
 RR (sOp (.load 23 (.const a)) 23) b fun a b=>
 RR (sOp (.indexAddr 23 (.const a) (.const c)) 0) b fun a b=>
 RR (sOp (.load 25 (.const a)) 25) b fun a b=>
 RR (sOp (.alloc 25) 0) b fun b o=>
 RR (sOp (.store 25 (.const b) (.const a)) 0) o fun _ a=>
 (∃ o:World->Prop,(
 RR (sOp (.fieldAddr 25 (.const b) 0) 0) a fun a c=>
 RR (sOp (.load 3 (.const a)) 3) c fun a c=>
 RR (ar .eql 3 false true a (.int .i64 1)) c fun a c=>
 CondV a (
 RR (sOp (.fieldAddr 25 (.const b) 1) 0) c fun a c=>
 RR (sOp (.load 3 (.const a)) 3) c fun a c=>
 RR (sOp (.indexAddr 23 (.const p1) (.const a)) 0) c fun a c=>
 RR (sOp (.load 25 (.const a)) 25) c fun a c=>
 RR (sOp (.store 25 (.const b) (.const a)) 0) c fun _ a=>
 o a) (
 o c))/\
 ∀ _ _ _ _ _ _ _ _:Value,∀ a:World,o a->
 (∃ o:(Nat->Bool)->Value->Value->Value->Value->Value->Value->Value->World->Prop,o (fun _=>false) g h i j k l m { a with drawn:=a.drawn+1 }/\(
 (∀ a:Nat->Bool,a 0=false->∀ b c e f g h i j,o a b c e f g h i j->
 RR (sOp (.fieldAddr 25 (.const d) 3) 0) j fun d i=>
 o (aw a 0) b c e f g h d i)/\
 (∀ a:Nat->Bool,a 1=false->a 0=true->∀ b c d e f g h i,o a b c d e f g h i->
 RR (sOp (.load 23 (.const h)) 23) i fun g i=>
 o (aw a 1) b c d e f g h i)/\
 (∀ a:Nat->Bool,a 2=false->∀ c d e f g h i j,o a c d e f g h i j->
 RR (sOp (.load 25 (.const b)) 25) j fun b g=>
 o (aw a 2) c d e f b h i g)/\
 (∀ a:Nat->Bool,a 3=false->a 2=true->∀ b c d e f g h i,o a b c d e f g h i->
 RR (aJ (.func (.func 42) #[] #[]) [f]) i fun e i=>
 o (aw a 3) b c d e f g h i)/\
 (∀ a:Nat->Bool,a 4=false->a 3=true->∀ b c d e f g h i,o a b c d e f g h i->
 RR (aS 23 1 [(0,e)]) i fun d i=>
 o (aw a 4) b c d e f g h i)/\
 (∀ a:Nat->Bool,a 5=false->a 1=true->a 4=true->a 3=true->∀ b c d e f g h i,o a b c d e f g h i->
 RR (aq .append #[23,23] 23 [false,false] [g,d]) i fun c i=>
 o (aw a 5) b c d e f g h i)/\
 (∀ a:Nat->Bool,a 6=false->a 0=true->a 1=true->a 2=true->a 3=true->a 4=true->a 5=true->∀ b c e f g h i j,o a b c e f g h i j->
 RR (sOp (.fieldAddr 25 (.const d) 3) 0) j fun b d=>
 o (aw a 6) b c e f g h i d)/\
 (∀ a:Nat->Bool,a 7=false->a 6=true->a 5=true->a 5=true->a 0=true->a 1=true->a 2=true->a 3=true->a 4=true->a 5=true->∀ b c d e f g h i,o a b c d e f g h i->
 RR (sOp (.store 23 (.const b) (.const c)) 0) i fun _ i=>
 o (aw a 7) b c d e f g h i)/\
 True)/\
 ∀ a:Nat->Bool,a 7=true->a 6=true->a 5=true->a 4=true->a 3=true->a 2=true->a 1=true->a 0=true->∀ b d g h i j k l,o a b d g h i j k l->
 RR (ar .add 3 false true c (.int .i64 1)) l fun a b=>
 e a b/\f a b<f c n))) (
 RR (sOp (.load 25 (.const d)) 25) p fun a c=>
 RR (sOp (.store 25 (.const b) (.const a)) 0) c fun _ a=>
 (be Tryz.prog 25 b a fun b=>R (.returned b) a)))
theorem wA {p0 p1:Value} {w:World} {R:Ending->World->Prop} (h:rJ p0 p1 w R):Calls Tryz.prog 116 #[p0,p1] w R:=
  aL (.seq none .leaf (.seq none .leaf (.seq none (.seq none .leaf (.one (.loop [6] (.seq none .leaf (.seq none (.one (.seq none .leaf (.seq (some []) .leaf .leaf))) .leaf))))) .leaf))) [p0,p1] bf Tryz.func116 (by kernel_rfl) (by kernel_rfl) h


/- loop.example/prologserver/spec.l16Match : function 117 -/
def pN (p0 p1 p2:Value) (w:World) (R:Ending->World->Prop):Prop:=
 RR (sOp (.box 25 (.const p0)) 0) w fun a b=>
 RR (sOp (.box 25 (.const p1)) 0) b fun b c=>
 RR (aS 23 0 []) c fun c d=>
 RR (aq .append #[23,23] 23 [false,false] [c,p2]) d fun c d=>
 RR (sOp (.load 25 (.const a)) 25) d fun a d=>
 RR (sOp (.load 25 (.const b)) 25) d fun b d=>
 RR (aJ (.func (.func 85) #[] #[]) [a,b,c]) d fun a b=>
 R (.returned (.tuple #[c,a])) b
theorem uh {p0 p1 p2:Value} {w:World} {R:Ending->World->Prop} (h:pN p0 p1 p2 w R):Calls Tryz.prog 117 #[p0,p1,p2] w R:=
  aL .leaf [p0,p1,p2] bf Tryz.func117 (by kernel_rfl) (by kernel_rfl) h


/- loop.example/prologserver/spec.TermSame : function 118 -/
def pJ (p0 p1:Value) (w:World) (R:Ending->World->Prop):Prop:=
 RR (sOp (.box 25 (.const p0)) 0) w fun a b=>
 RR (sOp (.box 25 (.const p1)) 0) b fun b c=>
 (∃ d:Value->World->Prop,(
 RR (sOp (.fieldAddr 25 (.const a) 0) 0) c fun c e=>
 RR (sOp (.load 3 (.const c)) 3) e fun c e=>
 RR (sOp (.fieldAddr 25 (.const b) 0) 0) e fun e f=>
 RR (sOp (.load 3 (.const e)) 3) f fun e f=>
 RR (ar .neq 3 false false c e) f fun c e=>
 ((fun d:VW=>ah c false (
 RR (sOp (.fieldAddr 25 (.const a) 1) 0) e fun a e=>
 RR (sOp (.load 3 (.const a)) 3) e fun a e=>
 RR (sOp (.fieldAddr 25 (.const b) 1) 0) e fun b e=>
 RR (sOp (.load 3 (.const b)) 3) e fun b e=>
 RR (ar .neq 3 false false a b) e fun a b=>
 RR (sOp (.pick (.const c) (.const (.bool true)) (.const a)) 4) b fun a b=>d a b) (
 RR (sOp (.pick (.const c) (.const (.bool true)) (.const undef)) 4) e fun a b=>d a b)) fun c e=>
 ((fun d:VW=>ah c false (
 RR (sOp (.fieldAddr 25 (.const a) 2) 0) e fun a e=>
 RR (sOp (.load 9 (.const a)) 9) e fun a e=>
 RR (sOp (.fieldAddr 25 (.const b) 2) 0) e fun b e=>
 RR (sOp (.load 9 (.const b)) 9) e fun b e=>
 RR (ar .neq 9 false false a b) e fun a b=>
 RR (sOp (.pick (.const c) (.const (.bool true)) (.const a)) 4) b fun a b=>d a b) (
 RR (sOp (.pick (.const c) (.const (.bool true)) (.const undef)) 4) e fun a b=>d a b)) fun c e=>
 ah c false (
 RR (sOp (.fieldAddr 25 (.const a) 3) 0) e fun a e=>
 RR (sOp (.load 23 (.const a)) 23) e fun a e=>
 RR (aq .len #[23] 3 [false] [a]) e fun a e=>
 RR (sOp (.fieldAddr 25 (.const b) 3) 0) e fun b e=>
 RR (sOp (.load 23 (.const b)) 23) e fun b e=>
 RR (aq .len #[23] 3 [false] [b]) e fun b e=>
 RR (ar .neq 3 false false a b) e fun a b=>
 RR (sOp (.pick (.const c) (.const (.bool true)) (.const a)) 4) b fun a b=>
 d a b) (
 RR (sOp (.pick (.const c) (.const (.bool true)) (.const undef)) 4) e fun a b=>
 d a b))))/\
 ∀ c _ _ _ _ _ _ _ _ _ _ _ _ _ _ _ _ _ _ _ _ _ _ _ _ _ _ _:Value,∀ e:World,d c e->
 CondV c (
 R (.returned (.bool false)) e) (
 (∃ (c:Value->World->Prop) (d:Value->World->Nat),c (.int .i64 0) e/\
 ∀ e _ _ _ f g h i j k l m n o p q _ _ _ _ _:Value,∀ r:World,c e r->
 RR (sOp (.fieldAddr 25 (.const a) 3) 0) r fun s t=>
 RR (sOp (.load 23 (.const s)) 23) t fun s t=>
 RR (aq .len #[23] 3 [false] [s]) t fun s t=>
 RR (ar .lss 3 false false e s) t fun s t=>
 CondV s (
 (∃ s:(Nat->Bool)->Value->Value->Value->Value->Value->Value->Value->Value->Value->Value->Value->Value->World->Prop,s (fun _=>false) f g h i j k l m n o p q { t with drawn:=t.drawn+1 }/\(
 (∀ b:Nat->Bool,b 0=false->∀ c d e f g h i j k l m n o,s b c d e f g h i j k l m n o->
 RR (sOp (.fieldAddr 25 (.const a) 3) 0) o fun a n=>
 s (aw b 0) c d e f g h i j k l m a n)/\
 (∀ a:Nat->Bool,a 1=false->a 0=true->∀ b c d e f g h i j k l m n,s a b c d e f g h i j k l m n->
 RR (sOp (.load 23 (.const m)) 23) n fun l n=>
 s (aw a 1) b c d e f g h i j k l m n)/\
 (∀ a:Nat->Bool,a 2=false->∀ b c d f g h i j k l m n o,s a b c d f g h i j k l m n o->
 s (aw a 2) b c d f g h i j k e m n o)/\
 (∀ a:Nat->Bool,a 3=false->a 1=true->a 2=true->∀ b c d e f g h i j k l m n,s a b c d e f g h i j k l m n->
 RR (sOp (.indexAddr 23 (.const l) (.const k)) 0) n fun j n=>
 s (aw a 3) b c d e f g h i j k l m n)/\
 (∀ a:Nat->Bool,a 4=false->a 3=true->∀ b c d e f g h i j k l m n,s a b c d e f g h i j k l m n->
 RR (sOp (.load 25 (.const j)) 25) n fun i n=>
 s (aw a 4) b c d e f g h i j k l m n)/\
 (∀ a:Nat->Bool,a 5=false->∀ c d e f g h i j k l m n o,s a c d e f g h i j k l m n o->
 RR (sOp (.fieldAddr 25 (.const b) 3) 0) o fun b i=>
 s (aw a 5) c d e f g h b j k l m n i)/\
 (∀ a:Nat->Bool,a 6=false->a 5=true->∀ b c d e f g h i j k l m n,s a b c d e f g h i j k l m n->
 RR (sOp (.load 23 (.const h)) 23) n fun g n=>
 s (aw a 6) b c d e f g h i j k l m n)/\
 (∀ a:Nat->Bool,a 7=false->∀ b c d f g h i j k l m n o,s a b c d f g h i j k l m n o->
 s (aw a 7) b c d f e h i j k l m n o)/\
 (∀ a:Nat->Bool,a 8=false->a 6=true->a 7=true->∀ b c d e f g h i j k l m n,s a b c d e f g h i j k l m n->
 RR (sOp (.indexAddr 23 (.const g) (.const f)) 0) n fun e n=>
 s (aw a 8) b c d e f g h i j k l m n)/\
 (∀ a:Nat->Bool,a 9=false->a 8=true->∀ b c d e f g h i j k l m n,s a b c d e f g h i j k l m n->
 RR (sOp (.load 25 (.const e)) 25) n fun d n=>
 s (aw a 9) b c d e f g h i j k l m n)/\
 (∀ a:Nat->Bool,a 10=false->a 4=true->a 9=true->∀ b c d e f g h i j k l m n,s a b c d e f g h i j k l m n->
 RR (aJ (.func (.func 118) #[] #[]) [i,d]) n fun c n=>
 s (aw a 10) b c d e f g h i j k l m n)/\
 (∀ a:Nat->Bool,a 11=false->a 10=true->∀ b c d e f g h i j k l m n,s a b c d e f g h i j k l m n->
 RR (sOp (.unOp .not 4 (.const c)) 4) n fun b n=>
 s (aw a 11) b c d e f g h i j k l m n)/\
 True)/\
 ∀ a:Nat->Bool,a 11=true->a 10=true->a 9=true->a 8=true->a 7=true->a 6=true->a 5=true->a 4=true->a 3=true->a 2=true->a 1=true->a 0=true->∀ b f g h i j k l m n o p q,s a b f g h i j k l m n o p q->
 CondV b (
 R (.returned (.bool false)) q) (
 RR (ar .add 3 false true e (.int .i64 1)) q fun a b=>
 c a b/\d a b<d e r))) (
 R (.returned (.bool true)) t))))
theorem uG {p0 p1:Value} {w:World} {R:Ending->World->Prop} (h:pJ p0 p1 w R):Calls Tryz.prog 118 #[p0,p1] w R:=
  aL (.seq none .leaf (.seq none (.seq (some [33]) .leaf .leaf) (.seq none (.seq none .leaf (.one (.loop [5] .leaf))) .leaf))) [p0,p1] bf Tryz.func118 (by kernel_rfl) (by kernel_rfl) h


/- loop.example/prologserver/spec.l18Cut : function 119 -/
def vF (p0 p1:Value) (w:World) (R:Ending->World->Prop):Prop:=
 RR (aS 67 0 []) w fun a b=>
 (∃ (c:Value->Value->Value->World->Prop) (d:Value->Value->Value->World->Nat),c (.int .i64 0) (.int .i64 0) a b/\
 ∀ a _ _ b _ _ e _ _ _ _ _ _ _ _ _ _ _ _ _ _ _ _ _ _ _ _ _ _:Value,∀ f:World,c a b e f->
 RR (aq .len #[9] 3 [false] [p0]) f fun g h=>
 RR (ar .leq 3 false false a g) h fun g h=>
 CondV g (
 (∃ g:Value->Value->World->Prop,(
 (∃ c:Value->World->Prop,(
 RR (aq .len #[9] 3 [false] [p0]) h fun b d=>
 RR (ar .eql 3 false false a b) d fun b d=>
 ah b false (
 RR (sOp (.index 9 (.const p0) (.const a)) 5) d fun a d=>
 RR (ar .eql 5 false false a p1) d fun a d=>
 RR (sOp (.pick (.const b) (.const (.bool true)) (.const a)) 4) d fun a b=>
 c a b) (
 RR (sOp (.pick (.const b) (.const (.bool true)) (.const undef)) 4) d fun a b=>
 c a b))/\
 ∀ d _ _ _ _ _ _ _ _ _ _:Value,∀ f:World,c d f->
 CondV d (
 RR (sOp (.slice 9 (.const p0) (some (.const b)) (some (.const a)) none) 9) f fun b c=>
 RR (aS 67 1 [(0,b)]) c fun b c=>
 RR (aq .append #[67,67] 67 [false,false] [e,b]) c fun b c=>
 RR (ar .add 3 false true a (.int .i64 1)) c fun a c=>
 g a b c) (
 g b e f)))/\
 ∀ h _ _ i _ _ _ _ _ _ _ _ _ _ _ _ _ _ _ _ _ _:Value,∀ j:World,g h i j->
 RR (ar .add 3 false true a (.int .i64 1)) j fun g j=>
 c g h i j/\d g h i j<d a b e f)) (
 R (.returned e) h))
theorem z0 {p0 p1:Value} {w:World} {R:Ending->World->Prop} (h:vF p0 p1 w R):Calls Tryz.prog 119 #[p0,p1] w R:=
  aL (.seq none .leaf (.seq none .leaf (.seq none .leaf (.seq none (.seq none .leaf (.one (.loop [7,6,5] (.seq none .leaf (.seq (some [6,5]) (.one (.seq (some [25]) .leaf .leaf)) .leaf))))) .leaf)))) [p0,p1] bf Tryz.func119 (by kernel_rfl) (by kernel_rfl) h


/- loop.example/prologserver/spec.ParseClause : function 120 -/
def lU (p0:Value) (w:World) (R:Ending->World->Prop):Prop:=
 RR (sOp (.alloc 39) 0) w fun a b=>
 RR (aq .len #[9] 3 [false] [p0]) b fun b c=>
 RR (ar .gtr 3 false true b (.int .i64 1000)) c fun b c=>
 CondV b (
 RR (dD 39 []) c fun b c=>
 RR (sOp (.store 39 (.const a) (.const b)) 0) c fun _ b=>
 (be Tryz.prog 39 a b fun a=>R (.returned (.tuple #[a,(.bool false)])) b)) (
 RR (aJ (.func (.func 146) #[] #[]) [p0,(.int .i64 0),(.int .i64 30),(.int .i64 3)]) c fun b c=>
 RR (sOp (.extract (.const b) 0) 25) c fun c d=>
 RR (sOp (.extract (.const b) 1) 3) d fun b d=>
 RR (sOp (.alloc 25) 0) d fun d e=>
 RR (sOp (.store 25 (.const d) (.const c)) 0) e fun _ c=>
 RR (ar .lss 3 false true b (.int .i64 0)) c fun c e=>
 CondV c (
 RR (dD 39 []) e fun b c=>
 RR (sOp (.store 39 (.const a) (.const b)) 0) c fun _ b=>
 (be Tryz.prog 39 a b fun a=>R (.returned (.tuple #[a,(.bool false)])) b)) (
 RR (sOp (.load 25 (.const d)) 25) e fun c d=>
 RR (dD 39 [(0,c)]) d fun c d=>
 RR (sOp (.alloc 39) 0) d fun d e=>
 RR (sOp (.store 39 (.const d) (.const c)) 0) e fun _ c=>
 (∃ e:Value->World->Prop,(
 (∃ a:Value->World->Prop,(
 RR (aJ (.func (.func 147) #[] #[]) [p0,b,(.int .u8 58)]) c fun c d=>
 ah c true (
 RR (ar .add 3 false true b (.int .i64 1)) d fun b d=>
 RR (aJ (.func (.func 147) #[] #[]) [p0,b,(.int .u8 45)]) d fun b d=>
 RR (sOp (.pick (.const c) (.const b) (.const (.bool false))) 4) d fun b c=>
 a b c) (
 RR (sOp (.pick (.const c) (.const undef) (.const (.bool false))) 4) d fun b c=>
 a b c))/\
 ∀ c _ _ _ _ _ _ _ _:Value,∀ f:World,a c f->
 CondV c (
 RR (ar .add 3 false true b (.int .i64 2)) f fun a b=>
 RR (aJ (.func (.func 148) #[] #[]) [p0,a]) b fun a b=>
 RR (sOp (.extract (.const a) 0) 23) b fun b c=>
 RR (sOp (.extract (.const a) 1) 3) c fun a c=>
 RR (sOp (.fieldAddr 39 (.const d) 1) 0) c fun c d=>
 RR (sOp (.store 23 (.const c) (.const b)) 0) d fun _ b=>
 e a b) (
 e b f)))/\
 ∀ b _ _ _ _ _ _ _ _ _ _ _ _ _ _ _ _ _:Value,∀ c:World,e b c->
 (∃ e:Value->World->Prop,(
 RR (aq .len #[9] 3 [false] [p0]) c fun a c=>
 RR (ar .sub 3 false true a (.int .i64 1)) c fun a c=>
 RR (ar .neq 3 false false b a) c fun a c=>
 ((fun d:VW=>ah a false (
 RR (aJ (.func (.func 147) #[] #[]) [p0,b,(.int .u8 46)]) c fun b c=>
 RR (sOp (.unOp .not 4 (.const b)) 4) c fun b c=>
 RR (sOp (.pick (.const a) (.const (.bool true)) (.const b)) 4) c fun a b=>d a b) (
 RR (sOp (.pick (.const a) (.const (.bool true)) (.const undef)) 4) c fun a b=>d a b)) fun a b=>
 ah a false (
 RR (sOp (.load 39 (.const d)) 39) b fun b c=>
 RR (aJ (.func (.func 149) #[] #[]) [b]) c fun b c=>
 RR (ar .neq 9 false false b p0) c fun b c=>
 RR (sOp (.pick (.const a) (.const (.bool true)) (.const b)) 4) c fun a b=>
 e a b) (
 RR (sOp (.pick (.const a) (.const (.bool true)) (.const undef)) 4) b fun a b=>
 e a b)))/\
 ∀ b _ _ _ _ _ _ _ _ _ _ _ _ _ _ _ _:Value,∀ c:World,e b c->
 CondV b (
 RR (dD 39 []) c fun b c=>
 RR (sOp (.store 39 (.const a) (.const b)) 0) c fun _ b=>
 (be Tryz.prog 39 a b fun a=>R (.returned (.tuple #[a,(.bool false)])) b)) (
 RR (sOp (.load 39 (.const d)) 39) c fun b c=>
 RR (aJ (.func (.func 140) #[] #[]) [b]) c fun b c=>
 RR (sOp (.store 39 (.const a) (.const b)) 0) c fun _ b=>
 (be Tryz.prog 39 a b fun a=>R (.returned (.tuple #[a,(.bool true)])) b))))))
theorem po {p0:Value} {w:World} {R:Ending->World->Prop} (h:lU p0 w R):Calls Tryz.prog 120 #[p0] w R:=
  aL (.seq none .leaf (.seq none .leaf (.seq none .leaf (.seq none .leaf (.seq none .leaf (.seq (some [5]) (.seq (some [29]) .leaf .leaf) (.seq none (.seq (some [54]) .leaf .leaf) .leaf))))))) [p0] bf Tryz.func120 (by kernel_rfl) (by kernel_rfl) h


/- loop.example/prologserver/spec.l4Texts : function 121 -/
def sd (w:World) (R:Ending->World->Prop):Prop:=
 RR (aS 67 11 [(0,(.string ⟨#[97,112,112,40,91,93,44,65,44,65,41,46,10,97,112,112,40,91,65,124,66,93,44,67,44,91,65,124,68,93,41,58,45,97,112,112,40,66,44,67,44,68,41,46,10]⟩)),(1,(.string ⟨#[109,101,109,40,65,44,91,65,124,66,93,41,46,10,109,101,109,40,65,44,91,66,124,67,93,41,58,45,109,101,109,40,65,44,67,41,46,10]⟩)),(2,(.string ⟨#[112,40,49,41,46,10,112,40,50,41,46,10,112,40,51,41,46,10,113,40,65,41,58,45,112,40,65,41,44,65,62,49,44,33,46,10,114,40,65,44,66,41,58,45,112,40,65,41,44,112,40,66,41,46,10]⟩)),(3,(.string ⟨#[108,101,110,40,91,93,44,48,41,46,10,108,101,110,40,91,65,124,66,93,44,67,41,58,45,108,101,110,40,66,44,68,41,44,67,32,105,115,32,68,43,49,46,10]⟩)),(4,(.string ⟨#[109,97,120,40,65,44,66,44,65,41,58,45,65,62,61,66,44,33,46,10,109,97,120,40,65,44,66,44,66,41,46,10]⟩)),(5,(.string ⟨#[101,40,97,44,98,41,46,10,101,40,98,44,99,41,46,10,101,40,99,44,100,41,46,10,116,40,65,44,66,41,58,45,101,40,65,44,66,41,46,10,116,40,65,44,66,41,58,45,101,40,65,44,67,41,44,116,40,67,44,66,41,46,10]⟩)),(6,(.string ⟨#[108,111,111,112,58,45,108,111,111,112,46,10,111,107,46,10]⟩)),(7,(.string ⟨#[102,97,99,40,48,44,49,41,58,45,33,46,10,102,97,99,40,65,44,66,41,58,45,65,62,48,44,67,32,105,115,32,65,45,49,44,102,97,99,40,67,44,68,41,44,66,32,105,115,32,65,42,68,46,10]⟩)),(8,(.string ⟨#[115,40,65,41,58,45,65,61,102,40,66,41,44,97,114,103,40,49,44,65,44,66,41,44,66,61,49,46,10,115,40,65,41,58,45,118,97,114,40,65,41,44,65,61,110,111,110,101,46,10]⟩)),(9,(.string ⟨#[114,101,118,40,91,93,44,65,44,65,41,46,10,114,101,118,40,91,65,124,66,93,44,67,44,68,41,58,45,114,101,118,40,66,44,91,65,124,67,93,44,68,41,46,10]⟩)),(10,(.string ⟨#[98,97,100,40,65,41,58,45,66,32,105,115,32,65,43,102,111,111,44,67,61,66,46,10,98,105,103,40,65,41,58,45,65,32,105,115,32,57,57,57,43,49,46,10,117,110,40,65,41,58,45,110,111,115,117,99,104,40,65,41,46,10]⟩))]) w fun a b=>
 R (.returned a) b
theorem xx {w:World} {R:Ending->World->Prop} (h:sd w R):Calls Tryz.prog 121 #[] w R:=
  aL .leaf [] bf Tryz.func121 (by kernel_rfl) (by kernel_rfl) h


/- loop.example/prologserver/spec.l1Shape : function 124 -/
def r5 (p0 p1:Value) (w:World) (R:Ending->World->Prop):Prop:=
 RR (sOp (.box 25 (.const p0)) 0) w fun a b=>
 (∃ c:Value->World->Prop,(
 RR (ar .lss 3 false true p1 (.int .i64 1)) b fun b d=>
 ah b false (
 RR (sOp (.load 25 (.const a)) 25) d fun a d=>
 RR (aJ (.func (.func 157) #[] #[]) [a]) d fun a d=>
 RR (sOp (.unOp .not 4 (.const a)) 4) d fun a d=>
 RR (sOp (.pick (.const b) (.const (.bool true)) (.const a)) 4) d fun a b=>
 c a b) (
 RR (sOp (.pick (.const b) (.const (.bool true)) (.const undef)) 4) d fun a b=>
 c a b))/\
 ∀ b _ _ _ _ _ _:Value,∀ d:World,c b d->
 CondV b (
 R (.returned (.bool false)) d) (
 (∃ (b:Value->World->Prop) (c:Value->World->Nat),b (.int .i64 0) d/\
 ∀ d _ _ _ _ _ _ _ _ _ _ _ _ _ _ _ _ _:Value,∀ e:World,b d e->
 RR (sOp (.fieldAddr 25 (.const a) 3) 0) e fun f g=>
 RR (sOp (.load 23 (.const f)) 23) g fun f g=>
 RR (aq .len #[23] 3 [false] [f]) g fun f g=>
 RR (ar .lss 3 false false d f) g fun f g=>
 CondV f (
 RR (sOp (.fieldAddr 25 (.const a) 3) 0) g fun a f=>
 RR (sOp (.load 23 (.const a)) 23) f fun a f=>
 RR (sOp (.indexAddr 23 (.const a) (.const d)) 0) f fun a f=>
 RR (sOp (.load 25 (.const a)) 25) f fun a f=>
 RR (ar .sub 3 false true p1 (.int .i64 1)) f fun f g=>
 RR (aJ (.func (.func 124) #[] #[]) [a,f]) g fun a f=>
 RR (sOp (.unOp .not 4 (.const a)) 4) f fun a f=>
 CondV a (
 R (.returned (.bool false)) f) (
 RR (ar .add 3 false true d (.int .i64 1)) f fun a f=>
 b a f/\c a f<c d e)) (
 R (.returned (.bool true)) g))))
theorem wF {p0 p1:Value} {w:World} {R:Ending->World->Prop} (h:r5 p0 p1 w R):Calls Tryz.prog 124 #[p0,p1] w R:=
  aL (.seq none .leaf (.seq none (.seq (some [12]) .leaf .leaf) (.seq none (.seq none .leaf (.one (.loop [5] .leaf))) .leaf))) [p0,p1] bf Tryz.func124 (by kernel_rfl) (by kernel_rfl) h


/- loop.example/prologserver/spec.l1Count : function 125 -/
def tu (p0 p1:Value) (w:World) (R:Ending->World->Prop):Prop:=
 RR (sOp (.box 25 (.const p0)) 0) w fun a b=>
 (∃ (c:Value->Value->World->Prop) (d:Value->Value->World->Nat),c (.int .i64 0) (.int .i64 1) b/\
 ∀ b _ _ e _ _ _ _ _ _ _ _ _ _ _ _ _ _ _ _ _ _ _ _ _:Value,∀ f:World,c b e f->
 (∃ g:Value->World->Prop,(
 RR (sOp (.fieldAddr 25 (.const a) 3) 0) f fun a c=>
 RR (sOp (.load 23 (.const a)) 23) c fun a c=>
 RR (aq .len #[23] 3 [false] [a]) c fun a c=>
 RR (ar .lss 3 false false b a) c fun a b=>
 ah a true (
 RR (ar .leq 3 false false e p1) b fun b c=>
 RR (sOp (.pick (.const a) (.const b) (.const (.bool false))) 4) c fun a b=>
 g a b) (
 RR (sOp (.pick (.const a) (.const undef) (.const (.bool false))) 4) b fun a b=>
 g a b))/\
 ∀ h _ _ _ _ _ _ _ _ _:Value,∀ i:World,g h i->
 CondV h (
 RR (sOp (.fieldAddr 25 (.const a) 3) 0) i fun a g=>
 RR (sOp (.load 23 (.const a)) 23) g fun a g=>
 RR (sOp (.indexAddr 23 (.const a) (.const b)) 0) g fun a g=>
 RR (sOp (.load 25 (.const a)) 25) g fun a g=>
 RR (ar .sub 3 false false p1 e) g fun g h=>
 RR (aJ (.func (.func 125) #[] #[]) [a,g]) h fun a g=>
 RR (ar .add 3 false false e a) g fun a g=>
 RR (ar .add 3 false true b (.int .i64 1)) g fun g h=>
 c g a h/\d g a h<d b e f) (
 R (.returned e) i)))
theorem wG {p0 p1:Value} {w:World} {R:Ending->World->Prop} (h:tu p0 p1 w R):Calls Tryz.prog 125 #[p0,p1] w R:=
  aL (.seq none .leaf (.seq none .leaf (.seq none (.seq none .leaf (.one (.loop [6,5] (.seq none (.seq (some [16]) .leaf .leaf) .leaf)))) .leaf))) [p0,p1] bf Tryz.func125 (by kernel_rfl) (by kernel_rfl) h


/- loop.example/prologserver/impl.within : function 126 -/
def vN (p0 p1 p2:Value) (w:World) (R:Ending->World->Prop):Prop:=
 RR (ar .leq 3 false false p1 p0) w fun a b=>
 ah a true (
 RR (ar .leq 3 false false p0 p2) b fun b c=>
 RR (sOp (.pick (.const a) (.const b) (.const (.bool false))) 4) c fun a b=>
 R (.returned a) b) (
 RR (sOp (.pick (.const a) (.const undef) (.const (.bool false))) 4) b fun a b=>
 R (.returned a) b)
theorem zQ {p0 p1 p2:Value} {w:World} {R:Ending->World->Prop} (h:vN p0 p1 p2 w R):Calls Tryz.prog 126 #[p0,p1,p2] w R:=
  aL .leaf [p0,p1,p2] bf Tryz.func126 (by kernel_rfl) (by kernel_rfl) h


/- loop.example/prologserver/impl.NameValid : function 127 -/
def nr (p0:Value) (w:World) (R:Ending->World->Prop):Prop:=
 RR (aJ (.func (.func 101) #[] #[]) [p0]) w fun a b=>
 ah a false (
 RR (aJ (.func (.func 158) #[] #[]) []) b fun b c=>
 RR (aJ (.func (.func 55) #[] #[]) [b,p0]) c fun b c=>
 RR (sOp (.pick (.const a) (.const (.bool true)) (.const b)) 4) c fun a b=>
 R (.returned a) b) (
 RR (sOp (.pick (.const a) (.const (.bool true)) (.const undef)) 4) b fun a b=>
 R (.returned a) b)
theorem rq {p0:Value} {w:World} {R:Ending->World->Prop} (h:nr p0 w R):Calls Tryz.prog 127 #[p0] w R:=
  aL .leaf [p0] bf Tryz.func127 (by kernel_rfl) (by kernel_rfl) h


/- loop.example/prologserver/impl.scan$1 : function 128 -/
def v8 (p0 p1 p2:Value) (w:World) (R:Ending->World->Prop):Prop:=
 RR (sOp (.box 25 (.const p0)) 0) w fun a b=>
 RR (sOp (.load 25 (.const a)) 25) b fun a b=>
 RR (sOp (.load 3 (.const p1)) 3) b fun b c=>
 RR (ar .add 3 false true b (.int .i64 1)) c fun b c=>
 RR (sOp (.load 91 (.const p2)) 91) c fun c d=>
 RR (aJ (.func (.func 86) #[] #[]) [a,b,c]) d fun a b=>
 RR (sOp (.unOp .not 4 (.const a)) 4) b fun a b=>
 R (.returned a) b
theorem yP {p0 p1 p2:Value} {w:World} {R:Ending->World->Prop} (h:v8 p0 p1 p2 w R):Calls Tryz.prog 128 #[p0,p1,p2] w R:=
  aL .leaf [p0,p1,p2] bf Tryz.func128 (by kernel_rfl) (by kernel_rfl) h


/- loop.example/prologserver/impl.isFlat$1 : function 129 -/
def p6 (p0:Value) (w:World) (R:Ending->World->Prop):Prop:=
 RR (sOp (.box 25 (.const p0)) 0) w fun a b=>
 RR (sOp (.fieldAddr 25 (.const a) 3) 0) b fun a b=>
 RR (sOp (.load 23 (.const a)) 23) b fun a b=>
 RR (aq .len #[23] 3 [false] [a]) b fun a b=>
 RR (ar .gtr 3 false true a (.int .i64 0)) b fun a b=>
 R (.returned a) b
theorem tL {p0:Value} {w:World} {R:Ending->World->Prop} (h:p6 p0 w R):Calls Tryz.prog 129 #[p0] w R:=
  aL .leaf [p0] bf Tryz.func129 (by kernel_rfl) (by kernel_rfl) h


/- slices.IndexFunc[[]int,int] : function 130 -/
def jx (p0 p1:Value) (w:World) (R:Ending->World->Prop):Prop:=
 RR (aq .len #[71] 3 [false] [p0]) w fun a b=>
 (∃ (c:Value->World->Prop) (d:Value->World->Nat),c (.int .i64 0) b/\
 ∀ b _ _ _ _ _ _ _ _ _ _ _ _:Value,∀ e:World,c b e->
 RR (ar .lss 3 false false b a) e fun a f=>
 CondV a (
 RR (sOp (.indexAddr 71 (.const p0) (.const b)) 0) f fun a f=>
 RR (sOp (.load 3 (.const a)) 3) f fun a f=>
 RR (aJ p1 [a]) f fun a f=>
 CondV a (
 R (.returned b) f) (
 RR (ar .add 3 false true b (.int .i64 1)) f fun a f=>
 c a f/\d a f<d b e)) (
 R (.returned (.int .i64 (-1))) f))
theorem mW {p0 p1:Value} {w:World} {R:Ending->World->Prop} (h:jx p0 p1 w R):Calls Tryz.prog 130 #[p0,p1] w R:=
  aL (.seq none .leaf (.seq none (.seq none .leaf (.one (.loop [8] .leaf))) .leaf)) [p0,p1] bf Tryz.func130 (by kernel_rfl) (by kernel_rfl) h


/- slices.Index[[]int,int] : function 131 -/
def nP (p0 p1:Value) (w:World) (R:Ending->World->Prop):Prop:=
 RR (aq .len #[71] 3 [false] [p0]) w fun a b=>
 (∃ (c:Value->World->Prop) (d:Value->World->Nat),c (.int .i64 0) b/\
 ∀ b _ _ _ _ _ _ _ _ _ _ _ _:Value,∀ e:World,c b e->
 RR (ar .lss 3 false false b a) e fun a f=>
 CondV a (
 RR (sOp (.indexAddr 71 (.const p0) (.const b)) 0) f fun a f=>
 RR (sOp (.load 3 (.const a)) 3) f fun a f=>
 RR (ar .eql 3 false false p1 a) f fun a f=>
 CondV a (
 R (.returned b) f) (
 RR (ar .add 3 false true b (.int .i64 1)) f fun a f=>
 c a f/\d a f<d b e)) (
 R (.returned (.int .i64 (-1))) f))
theorem tf {p0 p1:Value} {w:World} {R:Ending->World->Prop} (h:nP p0 p1 w R):Calls Tryz.prog 131 #[p0,p1] w R:=
  aL (.seq none .leaf (.seq none (.seq none .leaf (.one (.loop [8] .leaf))) .leaf)) [p0,p1] bf Tryz.func131 (by kernel_rfl) (by kernel_rfl) h


/- loop.example/prologserver/impl.round$1 : function 132 -/
def rF (p0 p1:Value) (w:World) (R:Ending->World->Prop):Prop:=
 RR (sOp (.box 25 (.const p0)) 0) w fun a b=>
 RR (sOp (.load 23 (.const p1)) 23) b fun b c=>
 RR (sOp (.load 25 (.const a)) 25) c fun a c=>
 RR (aJ (.func (.func 133) #[] #[]) [b,a]) c fun a b=>
 RR (sOp (.store 23 (.const p1) (.const a)) 0) b fun _ a=>
 R (.returned (.tuple #[])) a
theorem wH {p0 p1:Value} {w:World} {R:Ending->World->Prop} (h:rF p0 p1 w R):Calls Tryz.prog 132 #[p0,p1] w R:=
  aL .leaf [p0,p1] bf Tryz.func132 (by kernel_rfl) (by kernel_rfl) h


/- loop.example/prologserver/impl.insert : function 133 -/
def vy (p0 p1:Value) (w:World) (R:Ending->World->Prop):Prop:=
 RR (sOp (.box 25 (.const p1)) 0) w fun a b=>
 RR (sOp (.load 25 (.const a)) 25) b fun b c=>
 RR (aJ (.func (.func 159) #[] #[]) [p0,b,(.func (.func 63) #[] #[])]) c fun b c=>
 RR (sOp (.extract (.const b) 0) 3) c fun c d=>
 RR (sOp (.extract (.const b) 1) 4) d fun b d=>
 CondV b (
 R (.returned p0) d) (
 RR (sOp (.load 25 (.const a)) 25) d fun a b=>
 RR (aJ (.func (.func 81) #[] #[]) [a]) b fun a b=>
 RR (aS 23 1 [(0,a)]) b fun a b=>
 RR (aJ (.func (.func 160) #[] #[]) [p0,c,a]) b fun a b=>
 R (.returned a) b)
theorem yK {p0 p1:Value} {w:World} {R:Ending->World->Prop} (h:vy p0 p1 w R):Calls Tryz.prog 133 #[p0,p1] w R:=
  aL .leaf [p0,p1] bf Tryz.func133 (by kernel_rfl) (by kernel_rfl) h


/- loop.example/prologserver/spec.GoalValid : function 134 -/
def ni (p0:Value) (w:World) (R:Ending->World->Prop):Prop:=
 RR (sOp (.box 25 (.const p0)) 0) w fun a b=>
 RR (sOp (.load 25 (.const a)) 25) b fun b c=>
 RR (aJ (.func (.func 84) #[] #[]) [b]) c fun b c=>
 ah b true (
 RR (sOp (.load 25 (.const a)) 25) c fun a c=>
 RR (aJ (.func (.func 161) #[] #[]) [a]) c fun a c=>
 RR (sOp (.pick (.const b) (.const a) (.const (.bool false))) 4) c fun a b=>
 R (.returned a) b) (
 RR (sOp (.pick (.const b) (.const undef) (.const (.bool false))) 4) c fun a b=>
 R (.returned a) b)
theorem s8 {p0:Value} {w:World} {R:Ending->World->Prop} (h:ni p0 w R):Calls Tryz.prog 134 #[p0] w R:=
  aL .leaf [p0] bf Tryz.func134 (by kernel_rfl) (by kernel_rfl) h


/- loop.example/prologserver/spec.l4Plain : function 135 -/
def rl (p0:Value) (w:World) (R:Ending->World->Prop):Prop:=
 RR (sOp (.box 25 (.const p0)) 0) w fun a b=>
 RR (sOp (.fieldAddr 25 (.const a) 0) 0) b fun b c=>
 RR (sOp (.load 3 (.const b)) 3) c fun b c=>
 RR (ar .eql 3 false true b (.int .i64 3)) c fun b c=>
 ((fun d:VW=>ah b true (
 RR (sOp (.fieldAddr 25 (.const a) 2) 0) c fun a c=>
 RR (sOp (.load 9 (.const a)) 9) c fun a c=>
 RR (aJ (.func (.func 162) #[] #[]) [a]) c fun a c=>
 RR (sOp (.pick (.const b) (.const a) (.const (.bool false))) 4) c fun a b=>d a b) (
 RR (sOp (.pick (.const b) (.const undef) (.const (.bool false))) 4) c fun a b=>d a b)) fun b c=>
 ((fun d:VW=>ah b true (
 RR (sOp (.fieldAddr 25 (.const a) 2) 0) c fun c e=>
 RR (sOp (.load 9 (.const c)) 9) e fun c e=>
 RR (sOp (.fieldAddr 25 (.const a) 3) 0) e fun a e=>
 RR (sOp (.load 23 (.const a)) 23) e fun a e=>
 RR (aq .len #[23] 3 [false] [a]) e fun a e=>
 RR (aJ (.func (.func 163) #[] #[]) [c,a]) e fun a c=>
 RR (sOp (.unOp .not 4 (.const a)) 4) c fun a c=>
 RR (sOp (.pick (.const b) (.const a) (.const (.bool false))) 4) c fun a b=>d a b) (
 RR (sOp (.pick (.const b) (.const undef) (.const (.bool false))) 4) c fun a b=>d a b)) fun b c=>
 ah b true (
 RR (sOp (.fieldAddr 25 (.const a) 2) 0) c fun a c=>
 RR (sOp (.load 9 (.const a)) 9) c fun a c=>
 RR (aJ (.func (.func 164) #[] #[]) [a]) c fun a c=>
 RR (ar .eql 3 false true a (.int .i64 0)) c fun a c=>
 RR (sOp (.pick (.const b) (.const a) (.const (.bool false))) 4) c fun a b=>
 R (.returned a) b) (
 RR (sOp (.pick (.const b) (.const undef) (.const (.bool false))) 4) c fun a b=>
 R (.returned a) b)))
theorem wW {p0:Value} {w:World} {R:Ending->World->Prop} (h:rl p0 w R):Calls Tryz.prog 135 #[p0] w R:=
  aL .leaf [p0] bf Tryz.func135 (by kernel_rfl) (by kernel_rfl) h


/- loop.example/prologserver/impl.OpLevel : function 136 -/
def sF (p0:Value) (w:World) (R:Ending->World->Prop):Prop:=
 (∃ a:Value->World->Prop,(
 RR (ar .eql 9 false true p0 (.string ⟨#[61]⟩)) w fun b c=>
 CondV b (
 a b c) (
 RR (ar .eql 9 false true p0 (.string ⟨#[92,61]⟩)) c fun b c=>
 CondV b (
 a b c) (
 RR (ar .eql 9 false true p0 (.string ⟨#[61,61]⟩)) c fun b c=>
 CondV b (
 a b c) (
 RR (ar .eql 9 false true p0 (.string ⟨#[60]⟩)) c fun b c=>
 CondV b (
 a b c) (
 RR (ar .eql 9 false true p0 (.string ⟨#[62]⟩)) c fun b c=>
 CondV b (
 a b c) (
 RR (ar .eql 9 false true p0 (.string ⟨#[61,60]⟩)) c fun b c=>
 CondV b (
 a b c) (
 RR (ar .eql 9 false true p0 (.string ⟨#[62,61]⟩)) c fun b c=>
 CondV b (
 a b c) (
 RR (ar .eql 9 false true p0 (.string ⟨#[61,58,61]⟩)) c fun b c=>
 CondV b (
 a b c) (
 RR (ar .eql 9 false true p0 (.string ⟨#[105,115]⟩)) c fun b c=>
 a b c)))))))))/\
 ∀ _ _ _ _ _ _ _ _ b _:Value,∀ c:World,a b c->
 CondV b (
 R (.returned (.tuple #[(.int .i64 3),(.bool false)])) c) (
 (∃ a:Value->World->Prop,(
 RR (ar .eql 9 false true p0 (.string ⟨#[43]⟩)) c fun b c=>
 CondV b (
 a b c) (
 RR (ar .eql 9 false true p0 (.string ⟨#[45]⟩)) c fun b c=>
 a b c))/\
 ∀ _ b _:Value,∀ c:World,a b c->
 CondV b (
 R (.returned (.tuple #[(.int .i64 2),(.bool true)])) c) (
 (∃ a:Value->World->Prop,(
 RR (ar .eql 9 false true p0 (.string ⟨#[42]⟩)) c fun b c=>
 CondV b (
 a b c) (
 RR (ar .eql 9 false true p0 (.string ⟨#[47,47]⟩)) c fun b c=>
 CondV b (
 a b c) (
 RR (ar .eql 9 false true p0 (.string ⟨#[109,111,100]⟩)) c fun b c=>
 a b c)))/\
 ∀ _ _ b _:Value,∀ c:World,a b c->
 CondV b (
 R (.returned (.tuple #[(.int .i64 1),(.bool true)])) c) (
 R (.returned (.tuple #[(.int .i64 0),(.bool false)])) c))))))
theorem xF {p0:Value} {w:World} {R:Ending->World->Prop} (h:sF p0 w R):Calls Tryz.prog 136 #[p0] w R:=
  aL (.seq none .leaf (.seq none (.seq none .leaf (.one (.seq (some [5]) .leaf (.two .leaf (.seq (some [15]) .leaf (.two .leaf (.seq (some [18]) .leaf .leaf))))))) .leaf)) [p0] bf Tryz.func136 (by kernel_rfl) (by kernel_rfl) h


/- loop.example/prologserver/impl.IsBuiltin : function 137 -/
def nI (p0 p1:Value) (w:World) (R:Ending->World->Prop):Prop:=
 (∃ a:Value->World->Prop,(
 RR (ar .eql 9 false true p0 (.string ⟨#[61]⟩)) w fun b c=>
 CondV b (
 a b c) (
 RR (ar .eql 9 false true p0 (.string ⟨#[92,61]⟩)) c fun b c=>
 CondV b (
 a b c) (
 RR (ar .eql 9 false true p0 (.string ⟨#[61,61]⟩)) c fun b c=>
 CondV b (
 a b c) (
 RR (ar .eql 9 false true p0 (.string ⟨#[60]⟩)) c fun b c=>
 CondV b (
 a b c) (
 RR (ar .eql 9 false true p0 (.string ⟨#[62]⟩)) c fun b c=>
 CondV b (
 a b c) (
 RR (ar .eql 9 false true p0 (.string ⟨#[61,60]⟩)) c fun b c=>
 CondV b (
 a b c) (
 RR (ar .eql 9 false true p0 (.string ⟨#[62,61]⟩)) c fun b c=>
 CondV b (
 a b c) (
 RR (ar .eql 9 false true p0 (.string ⟨#[61,58,61]⟩)) c fun b c=>
 CondV b (
 a b c) (
 RR (ar .eql 9 false true p0 (.string ⟨#[105,115]⟩)) c fun b c=>
 a b c)))))))))/\
 ∀ _ _ _ _ _ _ _ _ b _:Value,∀ c:World,a b c->
 CondV b (
 RR (ar .eql 3 false true p1 (.int .i64 2)) c fun a b=>
 R (.returned a) b) (
 (∃ a:Value->World->Prop,(
 RR (ar .eql 9 false true p0 (.string ⟨#[116,114,117,101]⟩)) c fun b c=>
 CondV b (
 a b c) (
 RR (ar .eql 9 false true p0 (.string ⟨#[102,97,105,108]⟩)) c fun b c=>
 a b c))/\
 ∀ _ b _:Value,∀ c:World,a b c->
 CondV b (
 RR (ar .eql 3 false true p1 (.int .i64 0)) c fun a b=>
 R (.returned a) b) (
 (∃ a:Value->World->Prop,(
 RR (ar .eql 9 false true p0 (.string ⟨#[118,97,114]⟩)) c fun b c=>
 CondV b (
 a b c) (
 RR (ar .eql 9 false true p0 (.string ⟨#[110,111,110,118,97,114]⟩)) c fun b c=>
 CondV b (
 a b c) (
 RR (ar .eql 9 false true p0 (.string ⟨#[97,116,111,109]⟩)) c fun b c=>
 CondV b (
 a b c) (
 RR (ar .eql 9 false true p0 (.string ⟨#[105,110,116]⟩)) c fun b c=>
 a b c))))/\
 ∀ _ _ _ b _:Value,∀ c:World,a b c->
 CondV b (
 RR (ar .eql 3 false true p1 (.int .i64 1)) c fun a b=>
 R (.returned a) b) (
 RR (ar .eql 9 false true p0 (.string ⟨#[97,114,103]⟩)) c fun a b=>
 CondV a (
 RR (ar .eql 3 false true p1 (.int .i64 3)) b fun a b=>
 R (.returned a) b) (
 R (.returned (.bool false)) b)))))))
theorem rf {p0 p1:Value} {w:World} {R:Ending->World->Prop} (h:nI p0 p1 w R):Calls Tryz.prog 137 #[p0,p1] w R:=
  aL (.seq none .leaf (.seq none (.seq none .leaf (.one (.seq (some [6]) .leaf (.two .leaf (.seq (some [18]) .leaf (.two .leaf (.seq (some [23]) .leaf .leaf))))))) .leaf)) [p0,p1] bf Tryz.func137 (by kernel_rfl) (by kernel_rfl) h


/- loop.example/prologserver/impl.goalsValid$1 : function 138 -/
def j7 (p0:Value) (w:World) (R:Ending->World->Prop):Prop:=
 RR (sOp (.box 25 (.const p0)) 0) w fun a b=>
 RR (sOp (.load 25 (.const a)) 25) b fun a b=>
 RR (aJ (.func (.func 139) #[] #[]) [a]) b fun a b=>
 RR (sOp (.unOp .not 4 (.const a)) 4) b fun a b=>
 R (.returned a) b
theorem nf {p0:Value} {w:World} {R:Ending->World->Prop} (h:j7 p0 w R):Calls Tryz.prog 138 #[p0] w R:=
  aL .leaf [p0] bf Tryz.func138 (by kernel_rfl) (by kernel_rfl) h


/- loop.example/prologserver/impl.GoalValid : function 139 -/
def oG (p0:Value) (w:World) (R:Ending->World->Prop):Prop:=
 RR (sOp (.box 25 (.const p0)) 0) w fun a b=>
 RR (sOp (.load 25 (.const a)) 25) b fun b c=>
 RR (aJ (.func (.func 43) #[] #[]) [b]) c fun b c=>
 ah b true (
 RR (sOp (.load 25 (.const a)) 25) c fun c d=>
 RR (aJ (.func (.func 54) #[] #[]) [c]) d fun c d=>
 ah c false (
 RR (sOp (.load 25 (.const a)) 25) d fun d e=>
 RR (aJ (.func (.func 103) #[] #[]) [d]) e fun d e=>
 ah b true (
 RR (sOp (.pick (.const c) (.const (.bool true)) (.const d)) 4) e fun c d=>
 ah c false (
 RR (sOp (.load 25 (.const a)) 25) d fun a d=>
 RR (aJ (.func (.func 165) #[] #[]) [a]) d fun a d=>
 ah b true (
 RR (sOp (.pick (.const c) (.const (.bool true)) (.const a)) 4) d fun a c=>
 RR (sOp (.pick (.const b) (.const a) (.const (.bool false))) 4) c fun a b=>
 R (.returned a) b) (
 RR (sOp (.pick (.const b) (.const undef) (.const (.bool false))) 4) d fun a b=>
 R (.returned a) b)) (
 ah b true (
 RR (sOp (.pick (.const c) (.const (.bool true)) (.const undef)) 4) d fun a c=>
 RR (sOp (.pick (.const b) (.const a) (.const (.bool false))) 4) c fun a b=>
 R (.returned a) b) (
 RR (sOp (.pick (.const b) (.const undef) (.const (.bool false))) 4) d fun a b=>
 R (.returned a) b))) (
 ah undef false (
 RR (sOp (.load 25 (.const a)) 25) e fun a c=>
 RR (aJ (.func (.func 165) #[] #[]) [a]) c fun a c=>
 ah b true (
 RR (sOp (.pick (.const undef) (.const (.bool true)) (.const a)) 4) c fun a c=>
 RR (sOp (.pick (.const b) (.const a) (.const (.bool false))) 4) c fun a b=>
 R (.returned a) b) (
 RR (sOp (.pick (.const b) (.const undef) (.const (.bool false))) 4) c fun a b=>
 R (.returned a) b)) (
 ah b true (
 RR (sOp (.pick (.const undef) (.const (.bool true)) (.const undef)) 4) e fun a c=>
 RR (sOp (.pick (.const b) (.const a) (.const (.bool false))) 4) c fun a b=>
 R (.returned a) b) (
 RR (sOp (.pick (.const b) (.const undef) (.const (.bool false))) 4) e fun a b=>
 R (.returned a) b)))) (
 ah b true (
 RR (sOp (.pick (.const c) (.const (.bool true)) (.const undef)) 4) d fun c d=>
 ah c false (
 RR (sOp (.load 25 (.const a)) 25) d fun a d=>
 RR (aJ (.func (.func 165) #[] #[]) [a]) d fun a d=>
 ah b true (
 RR (sOp (.pick (.const c) (.const (.bool true)) (.const a)) 4) d fun a c=>
 RR (sOp (.pick (.const b) (.const a) (.const (.bool false))) 4) c fun a b=>
 R (.returned a) b) (
 RR (sOp (.pick (.const b) (.const undef) (.const (.bool false))) 4) d fun a b=>
 R (.returned a) b)) (
 ah b true (
 RR (sOp (.pick (.const c) (.const (.bool true)) (.const undef)) 4) d fun a c=>
 RR (sOp (.pick (.const b) (.const a) (.const (.bool false))) 4) c fun a b=>
 R (.returned a) b) (
 RR (sOp (.pick (.const b) (.const undef) (.const (.bool false))) 4) d fun a b=>
 R (.returned a) b))) (
 ah undef false (
 RR (sOp (.load 25 (.const a)) 25) d fun a c=>
 RR (aJ (.func (.func 165) #[] #[]) [a]) c fun a c=>
 ah b true (
 RR (sOp (.pick (.const undef) (.const (.bool true)) (.const a)) 4) c fun a c=>
 RR (sOp (.pick (.const b) (.const a) (.const (.bool false))) 4) c fun a b=>
 R (.returned a) b) (
 RR (sOp (.pick (.const b) (.const undef) (.const (.bool false))) 4) c fun a b=>
 R (.returned a) b)) (
 ah b true (
 RR (sOp (.pick (.const undef) (.const (.bool true)) (.const undef)) 4) d fun a c=>
 RR (sOp (.pick (.const b) (.const a) (.const (.bool false))) 4) c fun a b=>
 R (.returned a) b) (
 RR (sOp (.pick (.const b) (.const undef) (.const (.bool false))) 4) d fun a b=>
 R (.returned a) b))))) (
 ah undef false (
 RR (sOp (.load 25 (.const a)) 25) c fun c d=>
 RR (aJ (.func (.func 103) #[] #[]) [c]) d fun c d=>
 ah b true (
 RR (sOp (.pick (.const undef) (.const (.bool true)) (.const c)) 4) d fun c d=>
 ah c false (
 RR (sOp (.load 25 (.const a)) 25) d fun a d=>
 RR (aJ (.func (.func 165) #[] #[]) [a]) d fun a d=>
 ah b true (
 RR (sOp (.pick (.const c) (.const (.bool true)) (.const a)) 4) d fun a c=>
 RR (sOp (.pick (.const b) (.const a) (.const (.bool false))) 4) c fun a b=>
 R (.returned a) b) (
 RR (sOp (.pick (.const b) (.const undef) (.const (.bool false))) 4) d fun a b=>
 R (.returned a) b)) (
 ah b true (
 RR (sOp (.pick (.const c) (.const (.bool true)) (.const undef)) 4) d fun a c=>
 RR (sOp (.pick (.const b) (.const a) (.const (.bool false))) 4) c fun a b=>
 R (.returned a) b) (
 RR (sOp (.pick (.const b) (.const undef) (.const (.bool false))) 4) d fun a b=>
 R (.returned a) b))) (
 ah undef false (
 RR (sOp (.load 25 (.const a)) 25) d fun a c=>
 RR (aJ (.func (.func 165) #[] #[]) [a]) c fun a c=>
 ah b true (
 RR (sOp (.pick (.const undef) (.const (.bool true)) (.const a)) 4) c fun a c=>
 RR (sOp (.pick (.const b) (.const a) (.const (.bool false))) 4) c fun a b=>
 R (.returned a) b) (
 RR (sOp (.pick (.const b) (.const undef) (.const (.bool false))) 4) c fun a b=>
 R (.returned a) b)) (
 ah b true (
 RR (sOp (.pick (.const undef) (.const (.bool true)) (.const undef)) 4) d fun a c=>
 RR (sOp (.pick (.const b) (.const a) (.const (.bool false))) 4) c fun a b=>
 R (.returned a) b) (
 RR (sOp (.pick (.const b) (.const undef) (.const (.bool false))) 4) d fun a b=>
 R (.returned a) b)))) (
 ah b true (
 RR (sOp (.pick (.const undef) (.const (.bool true)) (.const undef)) 4) c fun c d=>
 ah c false (
 RR (sOp (.load 25 (.const a)) 25) d fun a d=>
 RR (aJ (.func (.func 165) #[] #[]) [a]) d fun a d=>
 ah b true (
 RR (sOp (.pick (.const c) (.const (.bool true)) (.const a)) 4) d fun a c=>
 RR (sOp (.pick (.const b) (.const a) (.const (.bool false))) 4) c fun a b=>
 R (.returned a) b) (
 RR (sOp (.pick (.const b) (.const undef) (.const (.bool false))) 4) d fun a b=>
 R (.returned a) b)) (
 ah b true (
 RR (sOp (.pick (.const c) (.const (.bool true)) (.const undef)) 4) d fun a c=>
 RR (sOp (.pick (.const b) (.const a) (.const (.bool false))) 4) c fun a b=>
 R (.returned a) b) (
 RR (sOp (.pick (.const b) (.const undef) (.const (.bool false))) 4) d fun a b=>
 R (.returned a) b))) (
 ah undef false (
 RR (sOp (.load 25 (.const a)) 25) c fun a c=>
 RR (aJ (.func (.func 165) #[] #[]) [a]) c fun a c=>
 ah b true (
 RR (sOp (.pick (.const undef) (.const (.bool true)) (.const a)) 4) c fun a c=>
 RR (sOp (.pick (.const b) (.const a) (.const (.bool false))) 4) c fun a b=>
 R (.returned a) b) (
 RR (sOp (.pick (.const b) (.const undef) (.const (.bool false))) 4) c fun a b=>
 R (.returned a) b)) (
 ah b true (
 RR (sOp (.pick (.const undef) (.const (.bool true)) (.const undef)) 4) c fun a c=>
 RR (sOp (.pick (.const b) (.const a) (.const (.bool false))) 4) c fun a b=>
 R (.returned a) b) (
 RR (sOp (.pick (.const b) (.const undef) (.const (.bool false))) 4) c fun a b=>
 R (.returned a) b)))))
theorem rL {p0:Value} {w:World} {R:Ending->World->Prop} (h:oG p0 w R):Calls Tryz.prog 139 #[p0] w R:=
  aL .leaf [p0] bf Tryz.func139 (by kernel_rfl) (by kernel_rfl) h

end Go.Proofs.YtemmhhdnlbmicaaGreat
