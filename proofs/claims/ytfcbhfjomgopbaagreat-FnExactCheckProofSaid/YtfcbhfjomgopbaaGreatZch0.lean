/- Made by program: the functions in a shallow form; each form gives Calls. -/
import Derived.Test.YtfcbhfjomgopbaaGreatZcS
import Derived.Test.YtfcbhfjomgopbaaGreatProg
import Derived.KernelRfl
set_option maxRecDepth 100000
namespace Go.Proofs.YtfcbhfjomgopbaaGreat
open Go
theorem bl:Tryz.prog.follows .mixedOrders=true:=by kernel_rfl
abbrev RR:=Run Tryz.prog
abbrev VW:=Value->World->Prop
/- loop.example/prologserver/laws.FnExactCheckProof : function 3 -/
def fV (p0 p1:Value) (w:World) (R:Ending->World->Prop):Prop:=
 RR (sOp (.box 28 (.const p1)) 0) w fun a b=>
 RR (aN (.func (.func 9) #[] #[]) [p0,(.int .i64 1048576)]) b fun b c=>
 RR (aG .lss 3 false true b (.int .i64 0)) c fun c d=>
 CondV c (
 R (.returned (.bool true)) d) (
 RR (sOp (.load 28 (.const a)) 28) d fun c d=>
 RR (aN (.func (.func 10) #[] #[]) [c,b]) d fun b c=>
 RR (aG .lss 3 false true b (.int .i64 0)) c fun b c=>
 CondV b (
 R (.returned (.bool true)) c) (
 (∃ b:(Nat->Bool)->Value->Value->Value->Value->Value->Value->World->Prop,b (fun _=>false) undef undef undef undef undef undef { c with drawn:=c.drawn+1 }/\(
 (∀ a:Nat->Bool,a 0=false->∀ c d e f g h i,b a c d e f g h i->
 b (aD a 0) c d e f g p0 i)/\
 (∀ a:Nat->Bool,a 1=false->a 0=true->∀ c d e f g h i,b a c d e f g h i->
 RR (aN (.func (.func 12) #[] #[]) [h]) i fun g i=>
 b (aD a 1) c d e f g h i)/\
 (∀ c:Nat->Bool,c 2=false->∀ d e f g h i j,b c d e f g h i j->
 RR (sOp (.load 28 (.const a)) 28) j fun a g=>
 b (aD c 2) d e f a h i g)/\
 (∀ a:Nat->Bool,a 3=false->a 2=true->a 1=true->∀ c d e f g h i,b a c d e f g h i->
 RR (aN (.func (.func 13) #[] #[]) [f]) i fun e i=>
 b (aD a 3) c d e f g h i)/\
 (∀ a:Nat->Bool,a 4=false->a 1=true->a 3=true->a 3=true->∀ c d e f g h i,b a c d e f g h i->
 RR (aN (.func (.func 11) #[] #[]) [g,e]) i fun d i=>
 b (aD a 4) c d e f g h i)/\
 (∀ a:Nat->Bool,a 5=false->a 4=true->a 4=true->a 0=true->a 1=true->a 2=true->a 3=true->a 4=true->∀ c d e f g h i,b a c d e f g h i->
 b (aD a 5) d d e f g h i)/\
 True)/\
 ∀ c:Nat->Bool,c 5=true->c 4=true->c 3=true->c 2=true->c 1=true->c 0=true->∀ d e f g h i j,b c d e f g h i j->
 RR (aN (.func (.func 12) #[] #[]) [p0]) j fun b c=>
 RR (sOp (.load 28 (.const a)) 28) c fun c e=>
 RR (aN (.func (.func 13) #[] #[]) [c]) e fun c e=>
 RR (sOp (.alloc 39) 0) e fun e f=>
 RR (sOp (.store 39 (.const e) (.const c)) 0) f fun _ c=>
 RR (sOp (.load 39 (.const e)) 39) c fun c f=>
 RR (aN (.func (.func 14) #[] #[]) [b,c]) f fun c f=>
 RR (aG .neq 4 false false c d) f fun c d=>
 CondV c (
 R (.returned (.bool false)) d) (
 RR (aN (.func (.func 12) #[] #[]) [p0]) d fun c d=>
 RR (aN (.func (.func 15) #[] #[]) [b,c]) d fun b c=>
 RR (sOp (.unOp .not 4 (.const b)) 4) c fun b c=>
 CondV b (
 R (.returned (.bool false)) c) (
 (∃ b:(Nat->Bool)->Value->Value->Value->Value->Value->World->Prop,b (fun _=>false) undef undef undef undef undef { c with drawn:=c.drawn+1 }/\(
 (∀ a:Nat->Bool,a 0=false->∀ c d f g h i,b a c d f g h i->
 RR (sOp (.load 39 (.const e)) 39) i fun e h=>
 b (aD a 0) c d f g e h)/\
 (∀ c:Nat->Bool,c 1=false->∀ d e f g h i,b c d e f g h i->
 RR (sOp (.load 28 (.const a)) 28) i fun a g=>
 b (aD c 1) d e f a h g)/\
 (∀ a:Nat->Bool,a 2=false->a 1=true->∀ c d e f g h,b a c d e f g h->
 RR (aN (.func (.func 13) #[] #[]) [f]) h fun e h=>
 b (aD a 2) c d e f g h)/\
 (∀ a:Nat->Bool,a 3=false->a 0=true->a 2=true->a 2=true->∀ c d e f g h,b a c d e f g h->
 RR (aN (.func (.func 16) #[] #[]) [g,e]) h fun d h=>
 b (aD a 3) c d e f g h)/\
 (∀ a:Nat->Bool,a 4=false->a 3=true->∀ c d e f g h,b a c d e f g h->
 RR (sOp (.unOp .not 4 (.const d)) 4) h fun c h=>
 b (aD a 4) c d e f g h)/\
 True)/\
 ∀ a:Nat->Bool,a 4=true->a 3=true->a 2=true->a 1=true->a 0=true->∀ c d e f g h,b a c d e f g h->
 CondV c (
 R (.returned (.bool false)) h) (
 R (.returned (.bool true)) h)))))))
theorem iM {p0 p1:Value} {w:World} {R:Ending->World->Prop} (h:fV p0 p1 w R):Calls Tryz.prog 3 #[p0,p1] w R:=
  aQ .leaf [p0,p1] bl Tryz.func3 (by kernel_rfl) (by kernel_rfl) h


/- loop.example/prologserver/laws.szClauseS : function 9 -/
def mf (p0 p1:Value) (w:World) (R:Ending->World->Prop):Prop:=
 RR (aM .len #[22] 3 [false] [p0]) w fun a b=>
 RR (aG .sub 3 false false p1 a) b fun a b=>
 RR (aG .lss 3 false true a (.int .i64 0)) b fun b c=>
 CondV b (
 R (.returned (.int .i64 (-1))) c) (
 (∃ (b:Value->Value->World->Prop) (d:Value->Value->World->Nat),b (.int .i64 0) a c/\
 ∀ a _ _ _ _ _ c _ _ _ _ _ _ _ _ _ _:Value,∀ e:World,b a c e->
 RR (aM .len #[22] 3 [false] [p0]) e fun f g=>
 RR (aG .lss 3 false false a f) g fun f g=>
 CondV f (
 RR (sOp (.indexAddr 22 (.const p0) (.const a)) 0) g fun f g=>
 RR (sOp (.load 60 (.const f)) 60) g fun f g=>
 RR (aN (.func (.func 27) #[] #[]) [f,c]) g fun f g=>
 RR (aG .lss 3 false true f (.int .i64 0)) g fun g h=>
 CondV g (
 R (.returned (.int .i64 (-1))) h) (
 RR (aG .add 3 false true a (.int .i64 1)) h fun g h=>
 b g f h/\d g f h<d a c e)) (
 R (.returned c) g)))
theorem oX {p0 p1:Value} {w:World} {R:Ending->World->Prop} (h:mf p0 p1 w R):Calls Tryz.prog 9 #[p0,p1] w R:=
  aQ (.seq none .leaf (.seq none .leaf (.seq none .leaf (.seq none (.seq none .leaf (.one (.loop [5,1] .leaf))) .leaf)))) [p0,p1] bl Tryz.func9 (by kernel_rfl) (by kernel_rfl) h


/- loop.example/prologserver/laws.szProof : function 10 -/
def oI (p0 p1:Value) (w:World) (R:Ending->World->Prop):Prop:=
 RR (sOp (.box 28 (.const p0)) 0) w fun a b=>
 RR (sOp (.fieldAddr 28 (.const a) 0) 0) b fun b c=>
 RR (sOp (.load 25 (.const b)) 25) c fun b c=>
 RR (aN (.func (.func 28) #[] #[]) [b,p1]) c fun b c=>
 RR (aG .lss 3 false true b (.int .i64 0)) c fun c d=>
 CondV c (
 R (.returned (.int .i64 (-1))) d) (
 RR (sOp (.fieldAddr 28 (.const a) 2) 0) d fun a c=>
 RR (sOp (.load 26 (.const a)) 26) c fun a c=>
 RR (aN (.func (.func 29) #[] #[]) [a,b]) c fun a b=>
 RR (aG .lss 3 false true a (.int .i64 0)) b fun b c=>
 CondV b (
 R (.returned (.int .i64 (-1))) c) (
 R (.returned a) c))
theorem tq {p0 p1:Value} {w:World} {R:Ending->World->Prop} (h:oI p0 p1 w R):Calls Tryz.prog 10 #[p0,p1] w R:=
  aQ .leaf [p0,p1] bl Tryz.func10 (by kernel_rfl) (by kernel_rfl) h


/- loop.example/prologserver/spec.CheckProof : function 11 -/
def lk (p0 p1:Value) (w:World) (R:Ending->World->Prop):Prop:=
 RR (sOp (.box 39 (.const p1)) 0) w fun a b=>
 RR (aN (.func (.func 30) #[] #[]) [p0]) b fun b c=>
 ((fun d:VW=>ak b true (
 RR (sOp (.load 39 (.const a)) 39) c fun a c=>
 RR (aN (.func (.func 31) #[] #[]) [a]) c fun a c=>
 RR (sOp (.pick (.const b) (.const a) (.const (.bool false))) 4) c fun a b=>d a b) (
 RR (sOp (.pick (.const b) (.const undef) (.const (.bool false))) 4) c fun a b=>d a b)) fun b c=>
 ak b true (
 RR (sOp (.load 39 (.const a)) 39) c fun a c=>
 RR (aN (.func (.func 32) #[] #[]) [p0,a]) c fun a c=>
 RR (sOp (.pick (.const b) (.const a) (.const (.bool false))) 4) c fun a b=>
 R (.returned a) b) (
 RR (sOp (.pick (.const b) (.const undef) (.const (.bool false))) 4) c fun a b=>
 R (.returned a) b))
theorem nV {p0 p1:Value} {w:World} {R:Ending->World->Prop} (h:lk p0 p1 w R):Calls Tryz.prog 11 #[p0,p1] w R:=
  aQ .leaf [p0,p1] bl Tryz.func11 (by kernel_rfl) (by kernel_rfl) h


/- loop.example/prologserver/laws.toClauseS : function 12 -/
def l9 (p0:Value) (w:World) (R:Ending->World->Prop):Prop:=
 RR (aM .len #[22] 3 [false] [p0]) w fun a b=>
 RR (sOp (.makeSlice 32 (.const a) (.const a)) 32) b fun a b=>
 (∃ (c:Value->World->Prop) (d:Value->World->Nat),c (.int .i64 0) b/\
 ∀ b _ _ _ _ _ _ _ _ _ _ _ _ _ _:Value,∀ e:World,c b e->
 RR (aM .len #[22] 3 [false] [p0]) e fun f g=>
 RR (aG .lss 3 false false b f) g fun f g=>
 CondV f (
 RR (sOp (.indexAddr 22 (.const p0) (.const b)) 0) g fun f g=>
 RR (sOp (.load 60 (.const f)) 60) g fun f g=>
 RR (aN (.func (.func 33) #[] #[]) [f]) g fun f g=>
 RR (sOp (.indexAddr 32 (.const a) (.const b)) 0) g fun a g=>
 RR (sOp (.store 56 (.const a) (.const f)) 0) g fun _ a=>
 RR (aG .add 3 false true b (.int .i64 1)) a fun a f=>
 c a f/\d a f<d b e) (
 R (.returned a) g))
theorem oQ {p0:Value} {w:World} {R:Ending->World->Prop} (h:l9 p0 w R):Calls Tryz.prog 12 #[p0] w R:=
  aQ (.seq none .leaf (.seq none .leaf (.seq none (.seq none .leaf (.one (.loop [4] .leaf))) .leaf))) [p0] bl Tryz.func12 (by kernel_rfl) (by kernel_rfl) h


/- loop.example/prologserver/laws.toProof : function 13 -/
def pK (p0:Value) (w:World) (R:Ending->World->Prop):Prop:=
 RR (sOp (.box 28 (.const p0)) 0) w fun a b=>
 RR (sOp (.alloc 39) 0) b fun b c=>
 RR (sOp (.alloc 39) 0) c fun c d=>
 RR (sOp (.fieldAddr 28 (.const a) 0) 0) d fun d e=>
 RR (sOp (.load 25 (.const d)) 25) e fun d e=>
 RR (aN (.func (.func 34) #[] #[]) [d]) e fun d e=>
 RR (sOp (.fieldAddr 39 (.const c) 0) 0) e fun e f=>
 RR (sOp (.store 36 (.const e) (.const d)) 0) f fun _ d=>
 RR (sOp (.fieldAddr 28 (.const a) 1) 0) d fun d e=>
 RR (sOp (.load 3 (.const d)) 3) e fun d e=>
 RR (sOp (.fieldAddr 39 (.const c) 1) 0) e fun e f=>
 RR (sOp (.store 3 (.const e) (.const d)) 0) f fun _ d=>
 RR (sOp (.fieldAddr 28 (.const a) 2) 0) d fun a d=>
 RR (sOp (.load 26 (.const a)) 26) d fun a d=>
 RR (aN (.func (.func 35) #[] #[]) [a]) d fun a d=>
 RR (sOp (.fieldAddr 39 (.const c) 2) 0) d fun d e=>
 RR (sOp (.store 37 (.const d) (.const a)) 0) e fun _ a=>
 RR (sOp (.load 39 (.const c)) 39) a fun a c=>
 RR (sOp (.store 39 (.const b) (.const a)) 0) c fun _ a=>
 (bg Tryz.prog 39 b a fun b=>R (.returned b) a)
theorem tJ {p0:Value} {w:World} {R:Ending->World->Prop} (h:pK p0 w R):Calls Tryz.prog 13 #[p0] w R:=
  aQ .leaf [p0] bl Tryz.func13 (by kernel_rfl) (by kernel_rfl) h


/- loop.example/prologserver/impl.CheckProof : function 14 -/
def li (p0 p1:Value) (w:World) (R:Ending->World->Prop):Prop:=
 RR (sOp (.box 39 (.const p1)) 0) w fun a b=>
 RR (aN (.func (.func 26) #[] #[]) [p0]) b fun b c=>
 ((fun d:VW=>ak b true (
 RR (sOp (.load 39 (.const a)) 39) c fun a c=>
 RR (aN (.func (.func 20) #[] #[]) [a]) c fun a c=>
 RR (sOp (.pick (.const b) (.const a) (.const (.bool false))) 4) c fun a b=>d a b) (
 RR (sOp (.pick (.const b) (.const undef) (.const (.bool false))) 4) c fun a b=>d a b)) fun b c=>
 ak b true (
 RR (sOp (.load 39 (.const a)) 39) c fun a c=>
 RR (aN (.func (.func 36) #[] #[]) [p0,a]) c fun a c=>
 RR (sOp (.pick (.const b) (.const a) (.const (.bool false))) 4) c fun a b=>
 R (.returned a) b) (
 RR (sOp (.pick (.const b) (.const undef) (.const (.bool false))) 4) c fun a b=>
 R (.returned a) b))
theorem n8 {p0 p1:Value} {w:World} {R:Ending->World->Prop} (h:li p0 p1 w R):Calls Tryz.prog 14 #[p0,p1] w R:=
  aQ .leaf [p0,p1] bl Tryz.func14 (by kernel_rfl) (by kernel_rfl) h


/- loop.example/prologserver/laws.eqClauseS : function 15 -/
def lF (p0 p1:Value) (w:World) (R:Ending->World->Prop):Prop:=
 RR (aM .len #[32] 3 [false] [p0]) w fun a b=>
 RR (aM .len #[32] 3 [false] [p1]) b fun b c=>
 RR (aG .neq 3 false false a b) c fun a b=>
 CondV a (
 R (.returned (.bool false)) b) (
 (∃ (a:Value->World->Prop) (c:Value->World->Nat),a (.int .i64 0) b/\
 ∀ b _ _ _ d e f g h i j k l m _ _ _ _:Value,∀ n:World,a b n->
 RR (aM .len #[32] 3 [false] [p0]) n fun o p=>
 RR (aG .lss 3 false false b o) p fun o p=>
 CondV o (
 (∃ o:(Nat->Bool)->Value->Value->Value->Value->Value->Value->Value->Value->Value->Value->World->Prop,o (fun _=>false) d e f g h i j k l m { p with drawn:=p.drawn+1 }/\(
 (∀ a:Nat->Bool,a 0=false->∀ b c d e f g h i j k l,o a b c d e f g h i j k l->
 o (aD a 0) b c d e f g h i j p0 l)/\
 (∀ a:Nat->Bool,a 1=false->∀ c d e f g h i j k l m,o a c d e f g h i j k l m->
 o (aD a 1) c d e f g h i j b l m)/\
 (∀ a:Nat->Bool,a 2=false->a 0=true->a 1=true->∀ b c d e f g h i j k l,o a b c d e f g h i j k l->
 RR (sOp (.indexAddr 32 (.const k) (.const j)) 0) l fun i l=>
 o (aD a 2) b c d e f g h i j k l)/\
 (∀ a:Nat->Bool,a 3=false->a 2=true->∀ b c d e f g h i j k l,o a b c d e f g h i j k l->
 RR (sOp (.load 56 (.const i)) 56) l fun h l=>
 o (aD a 3) b c d e f g h i j k l)/\
 (∀ a:Nat->Bool,a 4=false->∀ b c d e f g h i j k l,o a b c d e f g h i j k l->
 o (aD a 4) b c d e f p1 h i j k l)/\
 (∀ a:Nat->Bool,a 5=false->∀ c d e f g h i j k l m,o a c d e f g h i j k l m->
 o (aD a 5) c d e f b h i j k l m)/\
 (∀ a:Nat->Bool,a 6=false->a 4=true->a 5=true->∀ b c d e f g h i j k l,o a b c d e f g h i j k l->
 RR (sOp (.indexAddr 32 (.const g) (.const f)) 0) l fun e l=>
 o (aD a 6) b c d e f g h i j k l)/\
 (∀ a:Nat->Bool,a 7=false->a 6=true->∀ b c d e f g h i j k l,o a b c d e f g h i j k l->
 RR (sOp (.load 56 (.const e)) 56) l fun d l=>
 o (aD a 7) b c d e f g h i j k l)/\
 (∀ a:Nat->Bool,a 8=false->a 3=true->a 7=true->∀ b c d e f g h i j k l,o a b c d e f g h i j k l->
 RR (aN (.func (.func 37) #[] #[]) [h,d]) l fun c l=>
 o (aD a 8) b c d e f g h i j k l)/\
 (∀ a:Nat->Bool,a 9=false->a 8=true->∀ b c d e f g h i j k l,o a b c d e f g h i j k l->
 RR (sOp (.unOp .not 4 (.const c)) 4) l fun b l=>
 o (aD a 9) b c d e f g h i j k l)/\
 True)/\
 ∀ d:Nat->Bool,d 9=true->d 8=true->d 7=true->d 6=true->d 5=true->d 4=true->d 3=true->d 2=true->d 1=true->d 0=true->∀ e f g h i j k l m p q,o d e f g h i j k l m p q->
 CondV e (
 R (.returned (.bool false)) q) (
 RR (aG .add 3 false true b (.int .i64 1)) q fun d e=>
 a d e/\c d e<c b n))) (
 R (.returned (.bool true)) p)))
theorem pJ {p0 p1:Value} {w:World} {R:Ending->World->Prop} (h:lF p0 p1 w R):Calls Tryz.prog 15 #[p0,p1] w R:=
  aQ (.seq none .leaf (.seq none .leaf (.seq none (.seq none .leaf (.one (.loop [5] .leaf))) .leaf))) [p0,p1] bl Tryz.func15 (by kernel_rfl) (by kernel_rfl) h


/- loop.example/prologserver/laws.eqProof : function 16 -/
def pL (p0 p1:Value) (w:World) (R:Ending->World->Prop):Prop:=
 RR (sOp (.box 39 (.const p0)) 0) w fun a b=>
 RR (sOp (.box 39 (.const p1)) 0) b fun b c=>
 RR (sOp (.fieldAddr 39 (.const a) 0) 0) c fun c d=>
 RR (sOp (.load 36 (.const c)) 36) d fun c d=>
 RR (sOp (.fieldAddr 39 (.const b) 0) 0) d fun d e=>
 RR (sOp (.load 36 (.const d)) 36) e fun d e=>
 RR (aN (.func (.func 38) #[] #[]) [c,d]) e fun c d=>
 RR (sOp (.unOp .not 4 (.const c)) 4) d fun c d=>
 CondV c (
 R (.returned (.bool false)) d) (
 RR (sOp (.fieldAddr 39 (.const a) 1) 0) d fun c d=>
 RR (sOp (.load 3 (.const c)) 3) d fun c d=>
 RR (sOp (.fieldAddr 39 (.const b) 1) 0) d fun d e=>
 RR (sOp (.load 3 (.const d)) 3) e fun d e=>
 RR (aG .neq 3 false false c d) e fun c d=>
 CondV c (
 R (.returned (.bool false)) d) (
 RR (sOp (.fieldAddr 39 (.const a) 2) 0) d fun a c=>
 RR (sOp (.load 37 (.const a)) 37) c fun a c=>
 RR (sOp (.fieldAddr 39 (.const b) 2) 0) c fun b c=>
 RR (sOp (.load 37 (.const b)) 37) c fun b c=>
 RR (aN (.func (.func 39) #[] #[]) [a,b]) c fun a b=>
 RR (sOp (.unOp .not 4 (.const a)) 4) b fun a b=>
 CondV a (
 R (.returned (.bool false)) b) (
 R (.returned (.bool true)) b)))
theorem tj {p0 p1:Value} {w:World} {R:Ending->World->Prop} (h:pL p0 p1 w R):Calls Tryz.prog 16 #[p0,p1] w R:=
  aQ .leaf [p0,p1] bl Tryz.func16 (by kernel_rfl) (by kernel_rfl) h


/- loop.example/prologserver/impl.ProofValid : function 20 -/
def lh (p0:Value) (w:World) (R:Ending->World->Prop):Prop:=
 RR (sOp (.box 39 (.const p0)) 0) w fun a b=>
 RR (sOp (.alloc 3) 0) b fun b c=>
 RR (sOp (.store 3 (.const b) (.const (.int .i64 0))) 0) c fun _ c=>
 RR (sOp (.load 39 (.const a)) 39) c fun a c=>
 RR (aN (.func (.func 41) #[] #[]) [a,(.int .i64 1),b]) c fun a b=>
 R (.returned a) b
theorem oy {p0:Value} {w:World} {R:Ending->World->Prop} (h:lh p0 w R):Calls Tryz.prog 20 #[p0] w R:=
  aQ .leaf [p0] bl Tryz.func20 (by kernel_rfl) (by kernel_rfl) h


/- loop.example/prologserver/impl.ProgramValid : function 26 -/
def iX (p0:Value) (w:World) (R:Ending->World->Prop):Prop:=
 RR (aM .len #[32] 3 [false] [p0]) w fun a b=>
 RR (aG .leq 3 false true a (.int .i64 20)) b fun a b=>
 ak a true (
 RR (aN (.func (.func 50) #[] #[]) [p0,(.func (.func 51) #[] #[])]) b fun b c=>
 RR (sOp (.unOp .not 4 (.const b)) 4) c fun b c=>
 RR (sOp (.pick (.const a) (.const b) (.const (.bool false))) 4) c fun a b=>
 R (.returned a) b) (
 RR (sOp (.pick (.const a) (.const undef) (.const (.bool false))) 4) b fun a b=>
 R (.returned a) b)
theorem mj {p0:Value} {w:World} {R:Ending->World->Prop} (h:iX p0 w R):Calls Tryz.prog 26 #[p0] w R:=
  aQ .leaf [p0] bl Tryz.func26 (by kernel_rfl) (by kernel_rfl) h


/- loop.example/prologserver/laws.szClause : function 27 -/
def nh (p0 p1:Value) (w:World) (R:Ending->World->Prop):Prop:=
 RR (sOp (.box 60 (.const p0)) 0) w fun a b=>
 RR (sOp (.fieldAddr 60 (.const a) 0) 0) b fun b c=>
 RR (sOp (.load 25 (.const b)) 25) c fun b c=>
 RR (aN (.func (.func 28) #[] #[]) [b,p1]) c fun b c=>
 RR (aG .lss 3 false true b (.int .i64 0)) c fun c d=>
 CondV c (
 R (.returned (.int .i64 (-1))) d) (
 RR (sOp (.fieldAddr 60 (.const a) 1) 0) d fun a c=>
 RR (sOp (.load 23 (.const a)) 23) c fun a c=>
 RR (aN (.func (.func 53) #[] #[]) [a,b]) c fun a b=>
 RR (aG .lss 3 false true a (.int .i64 0)) b fun b c=>
 CondV b (
 R (.returned (.int .i64 (-1))) c) (
 R (.returned a) c))
theorem rM {p0 p1:Value} {w:World} {R:Ending->World->Prop} (h:nh p0 p1 w R):Calls Tryz.prog 27 #[p0,p1] w R:=
  aQ .leaf [p0,p1] bl Tryz.func27 (by kernel_rfl) (by kernel_rfl) h


/- loop.example/prologserver/laws.szTerm : function 28 -/
def sy (p0 p1:Value) (w:World) (R:Ending->World->Prop):Prop:=
 RR (sOp (.box 25 (.const p0)) 0) w fun a b=>
 RR (sOp (.fieldAddr 25 (.const a) 2) 0) b fun b c=>
 RR (sOp (.load 9 (.const b)) 9) c fun b c=>
 RR (aM .len #[9] 3 [false] [b]) c fun b c=>
 RR (aG .sub 3 false false p1 b) c fun b c=>
 RR (aG .lss 3 false true b (.int .i64 0)) c fun c d=>
 CondV c (
 R (.returned (.int .i64 (-1))) d) (
 RR (sOp (.fieldAddr 25 (.const a) 3) 0) d fun a c=>
 RR (sOp (.load 23 (.const a)) 23) c fun a c=>
 RR (aN (.func (.func 53) #[] #[]) [a,b]) c fun a b=>
 RR (aG .lss 3 false true a (.int .i64 0)) b fun b c=>
 CondV b (
 R (.returned (.int .i64 (-1))) c) (
 R (.returned a) c))
theorem wb {p0 p1:Value} {w:World} {R:Ending->World->Prop} (h:sy p0 p1 w R):Calls Tryz.prog 28 #[p0,p1] w R:=
  aQ .leaf [p0,p1] bl Tryz.func28 (by kernel_rfl) (by kernel_rfl) h


/- loop.example/prologserver/laws.szProofS : function 29 -/
def no (p0 p1:Value) (w:World) (R:Ending->World->Prop):Prop:=
 RR (aM .len #[26] 3 [false] [p0]) w fun a b=>
 RR (aG .sub 3 false false p1 a) b fun a b=>
 RR (aG .lss 3 false true a (.int .i64 0)) b fun b c=>
 CondV b (
 R (.returned (.int .i64 (-1))) c) (
 (∃ (b:Value->Value->World->Prop) (d:Value->Value->World->Nat),b (.int .i64 0) a c/\
 ∀ a _ _ _ _ _ c _ _ _ _ _ _ _ _ _ _:Value,∀ e:World,b a c e->
 RR (aM .len #[26] 3 [false] [p0]) e fun f g=>
 RR (aG .lss 3 false false a f) g fun f g=>
 CondV f (
 RR (sOp (.indexAddr 26 (.const p0) (.const a)) 0) g fun f g=>
 RR (sOp (.load 28 (.const f)) 28) g fun f g=>
 RR (aN (.func (.func 10) #[] #[]) [f,c]) g fun f g=>
 RR (aG .lss 3 false true f (.int .i64 0)) g fun g h=>
 CondV g (
 R (.returned (.int .i64 (-1))) h) (
 RR (aG .add 3 false true a (.int .i64 1)) h fun g h=>
 b g f h/\d g f h<d a c e)) (
 R (.returned c) g)))
theorem q7 {p0 p1:Value} {w:World} {R:Ending->World->Prop} (h:no p0 p1 w R):Calls Tryz.prog 29 #[p0,p1] w R:=
  aQ (.seq none .leaf (.seq none .leaf (.seq none .leaf (.seq none (.seq none .leaf (.one (.loop [5,1] .leaf))) .leaf)))) [p0,p1] bl Tryz.func29 (by kernel_rfl) (by kernel_rfl) h


/- loop.example/prologserver/spec.ProgramValid : function 30 -/
def iV (p0:Value) (w:World) (R:Ending->World->Prop):Prop:=
 (∃ (a:Value->World->Prop) (b:Value->World->Nat),a (.int .i64 0) w/\
 ∀ c _ _ _ _ _ _ _ _ _ _ _ _ _ _ _ _ _:Value,∀ d:World,a c d->
 (∃ e:Value->World->Prop,(
 RR (aM .len #[32] 3 [false] [p0]) d fun a b=>
 RR (aG .lss 3 false false c a) b fun a b=>
 ak a true (
 RR (aG .leq 3 false true c (.int .i64 20)) b fun b c=>
 RR (sOp (.pick (.const a) (.const b) (.const (.bool false))) 4) c fun a b=>
 e a b) (
 RR (sOp (.pick (.const a) (.const undef) (.const (.bool false))) 4) b fun a b=>
 e a b))/\
 ∀ f _ _ _ _ _ _ _:Value,∀ g:World,e f g->
 CondV f (
 RR (sOp (.indexAddr 32 (.const p0) (.const c)) 0) g fun e f=>
 RR (sOp (.load 56 (.const e)) 56) f fun e f=>
 RR (aN (.func (.func 54) #[] #[]) [e]) f fun e f=>
 RR (sOp (.unOp .not 4 (.const e)) 4) f fun e f=>
 CondV e (
 R (.returned (.bool false)) f) (
 RR (aG .add 3 false true c (.int .i64 1)) f fun e f=>
 a e f/\b e f<b c d)) (
 RR (aM .len #[32] 3 [false] [p0]) g fun a b=>
 RR (aG .leq 3 false true a (.int .i64 20)) b fun a b=>
 R (.returned a) b)))
theorem mh {p0:Value} {w:World} {R:Ending->World->Prop} (h:iV p0 w R):Calls Tryz.prog 30 #[p0] w R:=
  aQ (.seq none .leaf (.seq none (.seq none .leaf (.one (.loop [3] (.seq none (.seq (some [11]) .leaf .leaf) .leaf)))) .leaf)) [p0] bl Tryz.func30 (by kernel_rfl) (by kernel_rfl) h


/- loop.example/prologserver/spec.ProofValid : function 31 -/
def k4 (p0:Value) (w:World) (R:Ending->World->Prop):Prop:=
 RR (sOp (.box 39 (.const p0)) 0) w fun a b=>
 RR (sOp (.load 39 (.const a)) 39) b fun b c=>
 RR (aN (.func (.func 55) #[] #[]) [b,(.int .i64 20)]) c fun b c=>
 ak b true (
 RR (sOp (.load 39 (.const a)) 39) c fun a c=>
 RR (aN (.func (.func 42) #[] #[]) [a,(.int .i64 60)]) c fun a c=>
 RR (aG .leq 3 false true a (.int .i64 60)) c fun a c=>
 RR (sOp (.pick (.const b) (.const a) (.const (.bool false))) 4) c fun a b=>
 R (.returned a) b) (
 RR (sOp (.pick (.const b) (.const undef) (.const (.bool false))) 4) c fun a b=>
 R (.returned a) b)
theorem nZ {p0:Value} {w:World} {R:Ending->World->Prop} (h:k4 p0 w R):Calls Tryz.prog 31 #[p0] w R:=
  aQ .leaf [p0] bl Tryz.func31 (by kernel_rfl) (by kernel_rfl) h


/- loop.example/prologserver/spec.l13Check : function 32 -/
def nP (p0 p1:Value) (w:World) (R:Ending->World->Prop):Prop:=
 RR (sOp (.box 39 (.const p1)) 0) w fun a b=>
 RR (sOp (.load 39 (.const a)) 39) b fun b c=>
 RR (aN (.func (.func 56) #[] #[]) [p0,b]) c fun b c=>
 RR (sOp (.unOp .not 4 (.const b)) 4) c fun b c=>
 CondV b (
 R (.returned (.bool false)) c) (
 (∃ (b:Value->World->Prop) (d:Value->World->Nat),b (.int .i64 0) c/\
 ∀ c _ _ _ _ _ _ _ _ _ _ _ _ _ _ _ _:Value,∀ e:World,b c e->
 RR (sOp (.fieldAddr 39 (.const a) 2) 0) e fun f g=>
 RR (sOp (.load 37 (.const f)) 37) g fun f g=>
 RR (aM .len #[37] 3 [false] [f]) g fun f g=>
 RR (aG .lss 3 false false c f) g fun f g=>
 CondV f (
 RR (sOp (.fieldAddr 39 (.const a) 2) 0) g fun a f=>
 RR (sOp (.load 37 (.const a)) 37) f fun a f=>
 RR (sOp (.indexAddr 37 (.const a) (.const c)) 0) f fun a f=>
 RR (sOp (.load 39 (.const a)) 39) f fun a f=>
 RR (aN (.func (.func 32) #[] #[]) [p0,a]) f fun a f=>
 RR (sOp (.unOp .not 4 (.const a)) 4) f fun a f=>
 CondV a (
 R (.returned (.bool false)) f) (
 RR (aG .add 3 false true c (.int .i64 1)) f fun a f=>
 b a f/\d a f<d c e)) (
 R (.returned (.bool true)) g)))
theorem rq {p0 p1:Value} {w:World} {R:Ending->World->Prop} (h:nP p0 p1 w R):Calls Tryz.prog 32 #[p0,p1] w R:=
  aQ (.seq none .leaf (.seq none .leaf (.seq none (.seq none .leaf (.one (.loop [5] .leaf))) .leaf))) [p0,p1] bl Tryz.func32 (by kernel_rfl) (by kernel_rfl) h


/- loop.example/prologserver/laws.toClause : function 33 -/
def nF (p0:Value) (w:World) (R:Ending->World->Prop):Prop:=
 RR (sOp (.box 60 (.const p0)) 0) w fun a b=>
 RR (sOp (.alloc 56) 0) b fun b c=>
 RR (sOp (.alloc 56) 0) c fun c d=>
 RR (sOp (.fieldAddr 60 (.const a) 0) 0) d fun d e=>
 RR (sOp (.load 25 (.const d)) 25) e fun d e=>
 RR (aN (.func (.func 34) #[] #[]) [d]) e fun d e=>
 RR (sOp (.fieldAddr 56 (.const c) 0) 0) e fun e f=>
 RR (sOp (.store 36 (.const e) (.const d)) 0) f fun _ d=>
 RR (sOp (.fieldAddr 60 (.const a) 1) 0) d fun a d=>
 RR (sOp (.load 23 (.const a)) 23) d fun a d=>
 RR (aN (.func (.func 57) #[] #[]) [a]) d fun a d=>
 RR (sOp (.fieldAddr 56 (.const c) 1) 0) d fun d e=>
 RR (sOp (.store 34 (.const d) (.const a)) 0) e fun _ a=>
 RR (sOp (.load 56 (.const c)) 56) a fun a c=>
 RR (sOp (.store 56 (.const b) (.const a)) 0) c fun _ a=>
 (bg Tryz.prog 56 b a fun b=>R (.returned b) a)
theorem rK {p0:Value} {w:World} {R:Ending->World->Prop} (h:nF p0 w R):Calls Tryz.prog 33 #[p0] w R:=
  aQ .leaf [p0] bl Tryz.func33 (by kernel_rfl) (by kernel_rfl) h


/- loop.example/prologserver/laws.toTerm : function 34 -/
def r9 (p0:Value) (w:World) (R:Ending->World->Prop):Prop:=
 RR (sOp (.box 25 (.const p0)) 0) w fun a b=>
 RR (sOp (.alloc 36) 0) b fun b c=>
 RR (sOp (.alloc 36) 0) c fun c d=>
 RR (sOp (.fieldAddr 25 (.const a) 0) 0) d fun d e=>
 RR (sOp (.load 3 (.const d)) 3) e fun d e=>
 RR (sOp (.fieldAddr 36 (.const c) 0) 0) e fun e f=>
 RR (sOp (.store 3 (.const e) (.const d)) 0) f fun _ d=>
 RR (sOp (.fieldAddr 25 (.const a) 1) 0) d fun d e=>
 RR (sOp (.load 3 (.const d)) 3) e fun d e=>
 RR (sOp (.fieldAddr 36 (.const c) 1) 0) e fun e f=>
 RR (sOp (.store 3 (.const e) (.const d)) 0) f fun _ d=>
 RR (sOp (.fieldAddr 25 (.const a) 2) 0) d fun d e=>
 RR (sOp (.load 9 (.const d)) 9) e fun d e=>
 RR (sOp (.fieldAddr 36 (.const c) 2) 0) e fun e f=>
 RR (sOp (.store 9 (.const e) (.const d)) 0) f fun _ d=>
 RR (sOp (.fieldAddr 25 (.const a) 3) 0) d fun a d=>
 RR (sOp (.load 23 (.const a)) 23) d fun a d=>
 RR (aN (.func (.func 57) #[] #[]) [a]) d fun a d=>
 RR (sOp (.fieldAddr 36 (.const c) 3) 0) d fun d e=>
 RR (sOp (.store 34 (.const d) (.const a)) 0) e fun _ a=>
 RR (sOp (.load 36 (.const c)) 36) a fun a c=>
 RR (sOp (.store 36 (.const b) (.const a)) 0) c fun _ a=>
 (bg Tryz.prog 36 b a fun b=>R (.returned b) a)
theorem vx {p0:Value} {w:World} {R:Ending->World->Prop} (h:r9 p0 w R):Calls Tryz.prog 34 #[p0] w R:=
  aQ .leaf [p0] bl Tryz.func34 (by kernel_rfl) (by kernel_rfl) h


/- loop.example/prologserver/laws.toProofS : function 35 -/
def nr (p0:Value) (w:World) (R:Ending->World->Prop):Prop:=
 RR (aM .len #[26] 3 [false] [p0]) w fun a b=>
 RR (sOp (.makeSlice 37 (.const a) (.const a)) 37) b fun a b=>
 (∃ (c:Value->World->Prop) (d:Value->World->Nat),c (.int .i64 0) b/\
 ∀ b _ _ _ _ _ _ _ _ _ _ _ _ _ _:Value,∀ e:World,c b e->
 RR (aM .len #[26] 3 [false] [p0]) e fun f g=>
 RR (aG .lss 3 false false b f) g fun f g=>
 CondV f (
 RR (sOp (.indexAddr 26 (.const p0) (.const b)) 0) g fun f g=>
 RR (sOp (.load 28 (.const f)) 28) g fun f g=>
 RR (aN (.func (.func 13) #[] #[]) [f]) g fun f g=>
 RR (sOp (.indexAddr 37 (.const a) (.const b)) 0) g fun a g=>
 RR (sOp (.store 39 (.const a) (.const f)) 0) g fun _ a=>
 RR (aG .add 3 false true b (.int .i64 1)) a fun a f=>
 c a f/\d a f<d b e) (
 R (.returned a) g))
theorem rv {p0:Value} {w:World} {R:Ending->World->Prop} (h:nr p0 w R):Calls Tryz.prog 35 #[p0] w R:=
  aQ (.seq none .leaf (.seq none .leaf (.seq none (.seq none .leaf (.one (.loop [4] .leaf))) .leaf))) [p0] bl Tryz.func35 (by kernel_rfl) (by kernel_rfl) h


/- loop.example/prologserver/impl.checks : function 36 -/
def sS (p0 p1:Value) (w:World) (R:Ending->World->Prop):Prop:=
 RR (sOp (.box 39 (.const p1)) 0) w fun a b=>
 RR (sOp (.fieldAddr 39 (.const a) 1) 0) b fun b c=>
 RR (sOp (.load 3 (.const b)) 3) c fun b c=>
 RR (aG .lss 3 false true b (.int .i64 0)) c fun b c=>
 CondV b (
 RR (sOp (.fieldAddr 39 (.const a) 0) 0) c fun b c=>
 RR (sOp (.load 36 (.const b)) 36) c fun b c=>
 RR (aN (.func (.func 58) #[] #[]) [b]) c fun b c=>
 RR (sOp (.extract (.const b) 0) 88) c fun c d=>
 RR (sOp (.extract (.const b) 1) 3) d fun b d=>
 RR (sOp (.fieldAddr 39 (.const a) 0) 0) d fun d e=>
 RR (sOp (.load 36 (.const d)) 36) e fun d e=>
 RR (aN (.func (.func 59) #[] #[]) [d]) e fun d e=>
 ((fun b:VW=>ak d true (
 RR (sOp (.fieldAddr 39 (.const a) 2) 0) e fun a c=>
 RR (sOp (.load 37 (.const a)) 37) c fun a c=>
 RR (aM .len #[37] 3 [false] [a]) c fun a c=>
 RR (aG .eql 3 false true a (.int .i64 0)) c fun a c=>
 RR (sOp (.pick (.const d) (.const a) (.const (.bool false))) 4) c fun a c=>b a c) (
 RR (sOp (.pick (.const d) (.const undef) (.const (.bool false))) 4) e fun a c=>b a c)) fun a d=>
 ((fun b:VW=>ak a true (
 RR (aM .len #[88] 3 [false] [c]) d fun c d=>
 RR (aG .eql 3 false true c (.int .i64 0)) d fun c d=>
 RR (sOp (.pick (.const a) (.const c) (.const (.bool false))) 4) d fun a c=>b a c) (
 RR (sOp (.pick (.const a) (.const undef) (.const (.bool false))) 4) d fun a c=>b a c)) fun a c=>
 ak a true (
 RR (aG .eql 3 false true b (.int .i64 0)) c fun b c=>
 RR (sOp (.pick (.const a) (.const b) (.const (.bool false))) 4) c fun a b=>
 R (.returned a) b) (
 RR (sOp (.pick (.const a) (.const undef) (.const (.bool false))) 4) c fun a b=>
 R (.returned a) b)))) (
 (∃ b:(Nat->Bool)->Value->Value->Value->Value->Value->Value->Value->Value->Value->Value->Value->Value->Value->Value->Value->Value->Value->Value->World->Prop,b (fun _=>false) undef undef undef undef undef undef undef undef undef undef undef undef undef undef undef undef undef undef { c with drawn:=c.drawn+1 }/\(
 (∀ c:Nat->Bool,c 0=false->∀ d e f g h i j k l m n o p q r s t u v,b c d e f g h i j k l m n o p q r s t u v->
 RR (sOp (.fieldAddr 39 (.const a) 1) 0) v fun a u=>
 b (aD c 0) d e f g h i j k l m n o p q r s t a u)/\
 (∀ a:Nat->Bool,a 1=false->a 0=true->∀ c d e f g h i j k l m n o p q r s t u,b a c d e f g h i j k l m n o p q r s t u->
 RR (sOp (.load 3 (.const t)) 3) u fun s u=>
 b (aD a 1) c d e f g h i j k l m n o p q r s t u)/\
 (∀ a:Nat->Bool,a 2=false->∀ c d e f g h i j k l m n o p q r s t u,b a c d e f g h i j k l m n o p q r s t u->
 b (aD a 2) c d e f g h i j k l m n o p q p0 s t u)/\
 (∀ a:Nat->Bool,a 3=false->a 2=true->∀ c d e f g h i j k l m n o p q r s t u,b a c d e f g h i j k l m n o p q r s t u->
 RR (aM .len #[32] 3 [false] [r]) u fun q u=>
 b (aD a 3) c d e f g h i j k l m n o p q r s t u)/\
 (∀ a:Nat->Bool,a 4=false->a 1=true->a 3=true->∀ c d e f g h i j k l m n o p q r s t u,b a c d e f g h i j k l m n o p q r s t u->
 RR (aG .geq 3 false false s q) u fun p u=>
 b (aD a 4) c d e f g h i j k l m n o p q r s t u)/\
 (∀ a:Nat->Bool,a 5=false->a 4=true->∀ c d e f g h i j k l m n o p q r s t u,b a c d e f g h i j k l m n o p q r s t u->
 b (aD a 5) c d e f g h i j k l m n p p q r s t u)/\
 (∀ c:Nat->Bool,c 6=false->c 5=true->∀ d e f g h i j k l m n o p q r s t u v,b c d e f g h i j k l m n o p q r s t u v->
 ak p false (RR (sOp (.fieldAddr 39 (.const a) 2) 0) v fun a o=>
 b (aD c 6) d e f g h i j k l m n a p q r s t u o) (b (aD c 6) d e f g h i j k l m n undef p q r s t u v))/\
 (∀ a:Nat->Bool,a 7=false->a 6=true->a 5=true->∀ c d e f g h i j k l m n o p q r s t u,b a c d e f g h i j k l m n o p q r s t u->
 ak o false (RR (sOp (.load 37 (.const n)) 37) u fun m u=>
 b (aD a 7) c d e f g h i j k l m n o p q r s t u) (b (aD a 7) c d e f g h i j k l undef n o p q r s t u))/\
 (∀ a:Nat->Bool,a 8=false->a 7=true->a 5=true->∀ c d e f g h i j k l m n o p q r s t u,b a c d e f g h i j k l m n o p q r s t u->
 ak o false (RR (aM .len #[37] 3 [false] [m]) u fun l u=>
 b (aD a 8) c d e f g h i j k l m n o p q r s t u) (b (aD a 8) c d e f g h i j k undef m n o p q r s t u))/\
 (∀ a:Nat->Bool,a 9=false->a 5=true->∀ c d e f g h i j k l m n o p q r s t u,b a c d e f g h i j k l m n o p q r s t u->
 ak o false (b (aD a 9) c d e f g h i j p0 l m n o p q r s t u) (b (aD a 9) c d e f g h i j undef l m n o p q r s t u))/\
 (∀ c:Nat->Bool,c 10=false->c 5=true->∀ d e f g h i j k l m n o p q r s t u v,b c d e f g h i j k l m n o p q r s t u v->
 ak p false (RR (sOp (.fieldAddr 39 (.const a) 1) 0) v fun a k=>
 b (aD c 10) d e f g h i j a l m n o p q r s t u k) (b (aD c 10) d e f g h i j undef l m n o p q r s t u v))/\
 (∀ a:Nat->Bool,a 11=false->a 10=true->a 5=true->∀ c d e f g h i j k l m n o p q r s t u,b a c d e f g h i j k l m n o p q r s t u->
 ak o false (RR (sOp (.load 3 (.const j)) 3) u fun i u=>
 b (aD a 11) c d e f g h i j k l m n o p q r s t u) (b (aD a 11) c d e f g h undef j k l m n o p q r s t u))/\
 (∀ a:Nat->Bool,a 12=false->a 9=true->a 11=true->a 5=true->∀ c d e f g h i j k l m n o p q r s t u,b a c d e f g h i j k l m n o p q r s t u->
 ak o false (RR (sOp (.indexAddr 32 (.const k) (.const i)) 0) u fun h u=>
 b (aD a 12) c d e f g h i j k l m n o p q r s t u) (b (aD a 12) c d e f g undef i j k l m n o p q r s t u))/\
 (∀ a:Nat->Bool,a 13=false->a 12=true->a 5=true->∀ c d e f g h i j k l m n o p q r s t u,b a c d e f g h i j k l m n o p q r s t u->
 ak o false (RR (sOp (.fieldAddr 56 (.const h) 1) 0) u fun g u=>
 b (aD a 13) c d e f g h i j k l m n o p q r s t u) (b (aD a 13) c d e f undef h i j k l m n o p q r s t u))/\
 (∀ a:Nat->Bool,a 14=false->a 13=true->a 5=true->∀ c d e f g h i j k l m n o p q r s t u,b a c d e f g h i j k l m n o p q r s t u->
 ak o false (RR (sOp (.load 34 (.const g)) 34) u fun f u=>
 b (aD a 14) c d e f g h i j k l m n o p q r s t u) (b (aD a 14) c d e undef g h i j k l m n o p q r s t u))/\
 (∀ a:Nat->Bool,a 15=false->a 14=true->a 5=true->∀ c d e f g h i j k l m n o p q r s t u,b a c d e f g h i j k l m n o p q r s t u->
 ak o false (RR (aM .len #[34] 3 [false] [f]) u fun e u=>
 b (aD a 15) c d e f g h i j k l m n o p q r s t u) (b (aD a 15) c d undef f g h i j k l m n o p q r s t u))/\
 (∀ a:Nat->Bool,a 16=false->a 8=true->a 15=true->a 5=true->∀ c d e f g h i j k l m n o p q r s t u,b a c d e f g h i j k l m n o p q r s t u->
 ak o false (RR (aG .neq 3 false false l e) u fun d u=>
 b (aD a 16) c d e f g h i j k l m n o p q r s t u) (b (aD a 16) c undef e f g h i j k l m n o p q r s t u))/\
 (∀ a:Nat->Bool,a 17=false->a 5=true->a 16=true->∀ c d e f g h i j k l m n o p q r s t u,b a c d e f g h i j k l m n o p q r s t u->
 RR (sOp (.pick (.const o) (.const (.bool true)) (.const d)) 4) u fun c u=>
 b (aD a 17) c d e f g h i j k l m n o p q r s t u)/\
 True)/\
 ∀ c:Nat->Bool,c 17=true->c 16=true->c 15=true->c 14=true->c 13=true->c 12=true->c 11=true->c 10=true->c 9=true->c 8=true->c 7=true->c 6=true->c 5=true->c 4=true->c 3=true->c 2=true->c 1=true->c 0=true->∀ d e f g h i j k l m n o p q r s t u v,b c d e f g h i j k l m n o p q r s t u v->
 CondV d (
 R (.returned (.bool false)) v) (
 RR (sOp (.fieldAddr 39 (.const a) 1) 0) v fun b c=>
 RR (sOp (.load 3 (.const b)) 3) c fun b c=>
 RR (sOp (.indexAddr 32 (.const p0) (.const b)) 0) c fun b c=>
 RR (sOp (.load 56 (.const b)) 56) c fun b c=>
 RR (sOp (.alloc 56) 0) c fun c d=>
 RR (sOp (.store 56 (.const c) (.const b)) 0) d fun _ b=>
 RR (sOp (.makeMap 92 none) 92) b fun b d=>
 RR (sOp (.fieldAddr 39 (.const a) 0) 0) d fun d e=>
 RR (sOp (.load 36 (.const d)) 36) e fun d e=>
 RR (sOp (.fieldAddr 56 (.const c) 0) 0) e fun e f=>
 RR (sOp (.load 36 (.const e)) 36) f fun e f=>
 RR (aN (.func (.func 60) #[] #[]) [d,e,b]) f fun d e=>
 RR (sOp (.unOp .not 4 (.const d)) 4) e fun d e=>
 CondV d (
 R (.returned (.bool false)) e) (
 RR (sOp (.fieldAddr 56 (.const c) 1) 0) e fun c d=>
 RR (sOp (.load 34 (.const c)) 34) d fun c d=>
 RR (aM .len #[34] 3 [false] [c]) d fun d e=>
 (∃ (f:Value->World->Prop) (g:Value->World->Nat),f (.int .i64 0) e/\
 ∀ e _ _ h i j k l m n o p q r s t u v x y z A B C D E F _ _ _ _ _ _:Value,∀ G:World,f e G->
 RR (aG .lss 3 false false e d) G fun d H=>
 CondV d (
 RR (sOp (.indexAddr 34 (.const c) (.const e)) 0) H fun c d=>
 RR (sOp (.load 36 (.const c)) 36) d fun c d=>
 RR (sOp (.alloc 36) 0) d fun d H=>
 RR (sOp (.store 36 (.const d) (.const c)) 0) H fun _ c=>
 (∃ H:(Nat->Bool)->Value->Value->Value->Value->Value->Value->Value->Value->Value->Value->Value->Value->Value->Value->Value->Value->Value->Value->Value->Value->Value->Value->Value->Value->World->Prop,H (fun _=>false) h i j k l m n o p q r s t u v x y z A B C D E F { c with drawn:=c.drawn+1 }/\(
 (∀ a:Nat->Bool,a 0=false->∀ b c e f g h i j k l m n o p q r s t u v x y z A B,H a b c e f g h i j k l m n o p q r s t u v x y z A B->
 RR (sOp (.load 36 (.const d)) 36) B fun d A=>
 H (aD a 0) b c e f g h i j k l m n o p q r s t u v x y z d A)/\
 (∀ a:Nat->Bool,a 1=false->a 0=true->∀ b c d e f g h i j k l m n o p q r s t u v x y z A,H a b c d e f g h i j k l m n o p q r s t u v x y z A->
 RR (aN (.func (.func 61) #[] #[]) [z]) A fun y A=>
 H (aD a 1) b c d e f g h i j k l m n o p q r s t u v x y z A)/\
 (∀ a:Nat->Bool,a 2=false->a 1=true->a 1=true->∀ b c d e f g h i j k l m n o p q r s t u v x y z A,H a b c d e f g h i j k l m n o p q r s t u v x y z A->
 H (aD a 2) b c d e f g h i j k l m n o p q r s t u v y y z A)/\
 (∀ b:Nat->Bool,b 3=false->b 2=true->∀ c d e f g h i j k l m n o p q r s t u v x y z A B,H b c d e f g h i j k l m n o p q r s t u v x y z A B->
 ak y false (RR (sOp (.fieldAddr 39 (.const a) 2) 0) B fun a x=>
 H (aD b 3) c d e f g h i j k l m n o p q r s t u v a y z A x) (H (aD b 3) c d e f g h i j k l m n o p q r s t u v undef y z A B))/\
 (∀ a:Nat->Bool,a 4=false->a 3=true->a 2=true->∀ b c d e f g h i j k l m n o p q r s t u v x y z A,H a b c d e f g h i j k l m n o p q r s t u v x y z A->
 ak x false (RR (sOp (.load 37 (.const v)) 37) A fun u A=>
 H (aD a 4) b c d e f g h i j k l m n o p q r s t u v x y z A) (H (aD a 4) b c d e f g h i j k l m n o p q r s t undef v x y z A))/\
 (∀ a:Nat->Bool,a 5=false->a 2=true->∀ b c d f g h i j k l m n o p q r s t u v x y z A B,H a b c d f g h i j k l m n o p q r s t u v x y z A B->
 ak y false (H (aD a 5) b c d f g h i j k l m n o p q r s t e v x y z A B) (H (aD a 5) b c d f g h i j k l m n o p q r s t undef v x y z A B))/\
 (∀ a:Nat->Bool,a 6=false->a 4=true->a 5=true->a 2=true->∀ b c d e f g h i j k l m n o p q r s t u v x y z A,H a b c d e f g h i j k l m n o p q r s t u v x y z A->
 ak x false (RR (sOp (.indexAddr 37 (.const u) (.const t)) 0) A fun s A=>
 H (aD a 6) b c d e f g h i j k l m n o p q r s t u v x y z A) (H (aD a 6) b c d e f g h i j k l m n o p q r undef t u v x y z A))/\
 (∀ a:Nat->Bool,a 7=false->a 6=true->a 2=true->∀ b c d e f g h i j k l m n o p q r s t u v x y z A,H a b c d e f g h i j k l m n o p q r s t u v x y z A->
 ak x false (RR (sOp (.fieldAddr 39 (.const s) 0) 0) A fun r A=>
 H (aD a 7) b c d e f g h i j k l m n o p q r s t u v x y z A) (H (aD a 7) b c d e f g h i j k l m n o p q undef s t u v x y z A))/\
 (∀ a:Nat->Bool,a 8=false->a 7=true->a 2=true->∀ b c d e f g h i j k l m n o p q r s t u v x y z A,H a b c d e f g h i j k l m n o p q r s t u v x y z A->
 ak x false (RR (sOp (.load 36 (.const r)) 36) A fun q A=>
 H (aD a 8) b c d e f g h i j k l m n o p q r s t u v x y z A) (H (aD a 8) b c d e f g h i j k l m n o p undef r s t u v x y z A))/\
 (∀ a:Nat->Bool,a 9=false->a 2=true->∀ b c e f g h i j k l m n o p q r s t u v x y z A B,H a b c e f g h i j k l m n o p q r s t u v x y z A B->
 ak y false (RR (sOp (.load 36 (.const d)) 36) B fun d q=>
 H (aD a 9) b c e f g h i j k l m n o p d r s t u v x y z A q) (H (aD a 9) b c e f g h i j k l m n o p undef r s t u v x y z A B))/\
 (∀ a:Nat->Bool,a 10=false->a 2=true->∀ c d e f g h i j k l m n o p q r s t u v x y z A B,H a c d e f g h i j k l m n o p q r s t u v x y z A B->
 ak y false (H (aD a 10) c d e f g h i j k l m n o b q r s t u v x y z A B) (H (aD a 10) c d e f g h i j k l m n o undef q r s t u v x y z A B))/\
 (∀ a:Nat->Bool,a 11=false->a 8=true->a 9=true->a 10=true->a 2=true->a 2=true->∀ b c d e f g h i j k l m n o p q r s t u v x y z A,H a b c d e f g h i j k l m n o p q r s t u v x y z A->
 ak x false (RR (aN (.func (.func 60) #[] #[]) [q,p,o]) A fun n A=>
 H (aD a 11) b c d e f g h i j k l m n o p q r s t u v x y z A) (H (aD a 11) b c d e f g h i j k l m undef o p q r s t u v x y z A))/\
 (∀ a:Nat->Bool,a 12=false->a 11=true->a 2=true->∀ b c d e f g h i j k l m n o p q r s t u v x y z A,H a b c d e f g h i j k l m n o p q r s t u v x y z A->
 ak x false (RR (sOp (.unOp .not 4 (.const n)) 4) A fun m A=>
 H (aD a 12) b c d e f g h i j k l m n o p q r s t u v x y z A) (H (aD a 12) b c d e f g h i j k l undef n o p q r s t u v x y z A))/\
 (∀ a:Nat->Bool,a 13=false->a 2=true->a 12=true->∀ b c d e f g h i j k l m n o p q r s t u v x y z A,H a b c d e f g h i j k l m n o p q r s t u v x y z A->
 RR (sOp (.pick (.const x) (.const (.bool true)) (.const m)) 4) A fun l A=>
 H (aD a 13) b c d e f g h i j k l m n o p q r s t u v x y z A)/\
 (∀ a:Nat->Bool,a 14=false->a 13=true->a 11=true->∀ b c d e f g h i j k l m n o p q r s t u v x y z A,H a b c d e f g h i j k l m n o p q r s t u v x y z A->
 H (aD a 14) b c d e f g h i j l l m n o p q r s t u v x y z A)/\
 (∀ a:Nat->Bool,a 15=false->a 14=true->∀ b c d e f g h i j k l m n o p q r s t u v x y z A,H a b c d e f g h i j k l m n o p q r s t u v x y z A->
 ak k false (H (aD a 15) b c d e f g h i p0 k l m n o p q r s t u v x y z A) (H (aD a 15) b c d e f g h i undef k l m n o p q r s t u v x y z A))/\
 (∀ b:Nat->Bool,b 16=false->b 14=true->∀ c d e f g h i j k l m n o p q r s t u v x y z A B,H b c d e f g h i j k l m n o p q r s t u v x y z A B->
 ak l false (RR (sOp (.fieldAddr 39 (.const a) 2) 0) B fun a j=>
 H (aD b 16) c d e f g h i a k l m n o p q r s t u v x y z A j) (H (aD b 16) c d e f g h i undef k l m n o p q r s t u v x y z A B))/\
 (∀ a:Nat->Bool,a 17=false->a 16=true->a 14=true->∀ b c d e f g h i j k l m n o p q r s t u v x y z A,H a b c d e f g h i j k l m n o p q r s t u v x y z A->
 ak k false (RR (sOp (.load 37 (.const i)) 37) A fun h A=>
 H (aD a 17) b c d e f g h i j k l m n o p q r s t u v x y z A) (H (aD a 17) b c d e f g undef i j k l m n o p q r s t u v x y z A))/\
 (∀ a:Nat->Bool,a 18=false->a 14=true->∀ b c d f g h i j k l m n o p q r s t u v x y z A B,H a b c d f g h i j k l m n o p q r s t u v x y z A B->
 ak l false (H (aD a 18) b c d f g e i j k l m n o p q r s t u v x y z A B) (H (aD a 18) b c d f g undef i j k l m n o p q r s t u v x y z A B))/\
 (∀ a:Nat->Bool,a 19=false->a 17=true->a 18=true->a 14=true->∀ b c d e f g h i j k l m n o p q r s t u v x y z A,H a b c d e f g h i j k l m n o p q r s t u v x y z A->
 ak k false (RR (sOp (.indexAddr 37 (.const h) (.const g)) 0) A fun f A=>
 H (aD a 19) b c d e f g h i j k l m n o p q r s t u v x y z A) (H (aD a 19) b c d e undef g h i j k l m n o p q r s t u v x y z A))/\
 (∀ a:Nat->Bool,a 20=false->a 19=true->a 14=true->∀ b c d e f g h i j k l m n o p q r s t u v x y z A,H a b c d e f g h i j k l m n o p q r s t u v x y z A->
 ak k false (RR (sOp (.load 39 (.const f)) 39) A fun e A=>
 H (aD a 20) b c d e f g h i j k l m n o p q r s t u v x y z A) (H (aD a 20) b c d undef f g h i j k l m n o p q r s t u v x y z A))/\
 (∀ a:Nat->Bool,a 21=false->a 15=true->a 20=true->a 14=true->a 14=true->∀ b c d e f g h i j k l m n o p q r s t u v x y z A,H a b c d e f g h i j k l m n o p q r s t u v x y z A->
 ak k false (RR (aN (.func (.func 36) #[] #[]) [j,e]) A fun d A=>
 H (aD a 21) b c d e f g h i j k l m n o p q r s t u v x y z A) (H (aD a 21) b c undef e f g h i j k l m n o p q r s t u v x y z A))/\
 (∀ a:Nat->Bool,a 22=false->a 21=true->a 14=true->∀ b c d e f g h i j k l m n o p q r s t u v x y z A,H a b c d e f g h i j k l m n o p q r s t u v x y z A->
 ak k false (RR (sOp (.unOp .not 4 (.const d)) 4) A fun c A=>
 H (aD a 22) b c d e f g h i j k l m n o p q r s t u v x y z A) (H (aD a 22) b undef d e f g h i j k l m n o p q r s t u v x y z A))/\
 (∀ a:Nat->Bool,a 23=false->a 14=true->a 22=true->∀ b c d e f g h i j k l m n o p q r s t u v x y z A,H a b c d e f g h i j k l m n o p q r s t u v x y z A->
 RR (sOp (.pick (.const k) (.const (.bool true)) (.const c)) 4) A fun b A=>
 H (aD a 23) b c d e f g h i j k l m n o p q r s t u v x y z A)/\
 True)/\
 ∀ a:Nat->Bool,a 23=true->a 22=true->a 21=true->a 20=true->a 19=true->a 18=true->a 17=true->a 16=true->a 15=true->a 14=true->a 13=true->a 12=true->a 11=true->a 10=true->a 9=true->a 8=true->a 7=true->a 6=true->a 5=true->a 4=true->a 3=true->a 2=true->a 1=true->a 0=true->∀ b c d h i j k l m n o p q r s t u v x y z A B C D,H a b c d h i j k l m n o p q r s t u v x y z A B C D->
 CondV b (
 R (.returned (.bool false)) D) (
 RR (aG .add 3 false true e (.int .i64 1)) D fun a b=>
 f a b/\g a b<g e G))) (
 R (.returned (.bool true)) H))))))
theorem vg {p0 p1:Value} {w:World} {R:Ending->World->Prop} (h:sS p0 p1 w R):Calls Tryz.prog 36 #[p0,p1] w R:=
  aQ (.seq none .leaf (.seq none .leaf (.seq none .leaf (.seq none .leaf (.seq none .leaf (.seq none .leaf (.seq none (.seq none .leaf (.one (.loop [72] .leaf))) .leaf))))))) [p0,p1] bl Tryz.func36 (by kernel_rfl) (by kernel_rfl) h


/- loop.example/prologserver/laws.eqClause : function 37 -/
def nl (p0 p1:Value) (w:World) (R:Ending->World->Prop):Prop:=
 RR (sOp (.box 56 (.const p0)) 0) w fun a b=>
 RR (sOp (.box 56 (.const p1)) 0) b fun b c=>
 RR (sOp (.fieldAddr 56 (.const a) 0) 0) c fun c d=>
 RR (sOp (.load 36 (.const c)) 36) d fun c d=>
 RR (sOp (.fieldAddr 56 (.const b) 0) 0) d fun d e=>
 RR (sOp (.load 36 (.const d)) 36) e fun d e=>
 RR (aN (.func (.func 38) #[] #[]) [c,d]) e fun c d=>
 RR (sOp (.unOp .not 4 (.const c)) 4) d fun c d=>
 CondV c (
 R (.returned (.bool false)) d) (
 RR (sOp (.fieldAddr 56 (.const a) 1) 0) d fun a c=>
 RR (sOp (.load 34 (.const a)) 34) c fun a c=>
 RR (sOp (.fieldAddr 56 (.const b) 1) 0) c fun b c=>
 RR (sOp (.load 34 (.const b)) 34) c fun b c=>
 RR (aN (.func (.func 62) #[] #[]) [a,b]) c fun a b=>
 RR (sOp (.unOp .not 4 (.const a)) 4) b fun a b=>
 CondV a (
 R (.returned (.bool false)) b) (
 R (.returned (.bool true)) b))
theorem qY {p0 p1:Value} {w:World} {R:Ending->World->Prop} (h:nl p0 p1 w R):Calls Tryz.prog 37 #[p0,p1] w R:=
  aQ .leaf [p0,p1] bl Tryz.func37 (by kernel_rfl) (by kernel_rfl) h


/- loop.example/prologserver/laws.eqTerm : function 38 -/
def r2 (p0 p1:Value) (w:World) (R:Ending->World->Prop):Prop:=
 RR (sOp (.box 36 (.const p0)) 0) w fun a b=>
 RR (sOp (.box 36 (.const p1)) 0) b fun b c=>
 RR (sOp (.fieldAddr 36 (.const a) 0) 0) c fun c d=>
 RR (sOp (.load 3 (.const c)) 3) d fun c d=>
 RR (sOp (.fieldAddr 36 (.const b) 0) 0) d fun d e=>
 RR (sOp (.load 3 (.const d)) 3) e fun d e=>
 RR (aG .neq 3 false false c d) e fun c d=>
 CondV c (
 R (.returned (.bool false)) d) (
 RR (sOp (.fieldAddr 36 (.const a) 1) 0) d fun c d=>
 RR (sOp (.load 3 (.const c)) 3) d fun c d=>
 RR (sOp (.fieldAddr 36 (.const b) 1) 0) d fun d e=>
 RR (sOp (.load 3 (.const d)) 3) e fun d e=>
 RR (aG .neq 3 false false c d) e fun c d=>
 CondV c (
 R (.returned (.bool false)) d) (
 RR (sOp (.fieldAddr 36 (.const a) 2) 0) d fun c d=>
 RR (sOp (.load 9 (.const c)) 9) d fun c d=>
 RR (sOp (.fieldAddr 36 (.const b) 2) 0) d fun d e=>
 RR (sOp (.load 9 (.const d)) 9) e fun d e=>
 RR (aG .neq 9 false false c d) e fun c d=>
 CondV c (
 R (.returned (.bool false)) d) (
 RR (sOp (.fieldAddr 36 (.const a) 3) 0) d fun a c=>
 RR (sOp (.load 34 (.const a)) 34) c fun a c=>
 RR (sOp (.fieldAddr 36 (.const b) 3) 0) c fun b c=>
 RR (sOp (.load 34 (.const b)) 34) c fun b c=>
 RR (aN (.func (.func 62) #[] #[]) [a,b]) c fun a b=>
 RR (sOp (.unOp .not 4 (.const a)) 4) b fun a b=>
 CondV a (
 R (.returned (.bool false)) b) (
 R (.returned (.bool true)) b))))
theorem uW {p0 p1:Value} {w:World} {R:Ending->World->Prop} (h:r2 p0 p1 w R):Calls Tryz.prog 38 #[p0,p1] w R:=
  aQ .leaf [p0,p1] bl Tryz.func38 (by kernel_rfl) (by kernel_rfl) h


/- loop.example/prologserver/laws.eqProofS : function 39 -/
def nM (p0 p1:Value) (w:World) (R:Ending->World->Prop):Prop:=
 RR (aM .len #[37] 3 [false] [p0]) w fun a b=>
 RR (aM .len #[37] 3 [false] [p1]) b fun b c=>
 RR (aG .neq 3 false false a b) c fun a b=>
 CondV a (
 R (.returned (.bool false)) b) (
 (∃ (a:Value->World->Prop) (c:Value->World->Nat),a (.int .i64 0) b/\
 ∀ b _ _ _ d e f g h i j k l m _ _ _ _:Value,∀ n:World,a b n->
 RR (aM .len #[37] 3 [false] [p0]) n fun o p=>
 RR (aG .lss 3 false false b o) p fun o p=>
 CondV o (
 (∃ o:(Nat->Bool)->Value->Value->Value->Value->Value->Value->Value->Value->Value->Value->World->Prop,o (fun _=>false) d e f g h i j k l m { p with drawn:=p.drawn+1 }/\(
 (∀ a:Nat->Bool,a 0=false->∀ b c d e f g h i j k l,o a b c d e f g h i j k l->
 o (aD a 0) b c d e f g h i j p0 l)/\
 (∀ a:Nat->Bool,a 1=false->∀ c d e f g h i j k l m,o a c d e f g h i j k l m->
 o (aD a 1) c d e f g h i j b l m)/\
 (∀ a:Nat->Bool,a 2=false->a 0=true->a 1=true->∀ b c d e f g h i j k l,o a b c d e f g h i j k l->
 RR (sOp (.indexAddr 37 (.const k) (.const j)) 0) l fun i l=>
 o (aD a 2) b c d e f g h i j k l)/\
 (∀ a:Nat->Bool,a 3=false->a 2=true->∀ b c d e f g h i j k l,o a b c d e f g h i j k l->
 RR (sOp (.load 39 (.const i)) 39) l fun h l=>
 o (aD a 3) b c d e f g h i j k l)/\
 (∀ a:Nat->Bool,a 4=false->∀ b c d e f g h i j k l,o a b c d e f g h i j k l->
 o (aD a 4) b c d e f p1 h i j k l)/\
 (∀ a:Nat->Bool,a 5=false->∀ c d e f g h i j k l m,o a c d e f g h i j k l m->
 o (aD a 5) c d e f b h i j k l m)/\
 (∀ a:Nat->Bool,a 6=false->a 4=true->a 5=true->∀ b c d e f g h i j k l,o a b c d e f g h i j k l->
 RR (sOp (.indexAddr 37 (.const g) (.const f)) 0) l fun e l=>
 o (aD a 6) b c d e f g h i j k l)/\
 (∀ a:Nat->Bool,a 7=false->a 6=true->∀ b c d e f g h i j k l,o a b c d e f g h i j k l->
 RR (sOp (.load 39 (.const e)) 39) l fun d l=>
 o (aD a 7) b c d e f g h i j k l)/\
 (∀ a:Nat->Bool,a 8=false->a 3=true->a 7=true->∀ b c d e f g h i j k l,o a b c d e f g h i j k l->
 RR (aN (.func (.func 16) #[] #[]) [h,d]) l fun c l=>
 o (aD a 8) b c d e f g h i j k l)/\
 (∀ a:Nat->Bool,a 9=false->a 8=true->∀ b c d e f g h i j k l,o a b c d e f g h i j k l->
 RR (sOp (.unOp .not 4 (.const c)) 4) l fun b l=>
 o (aD a 9) b c d e f g h i j k l)/\
 True)/\
 ∀ d:Nat->Bool,d 9=true->d 8=true->d 7=true->d 6=true->d 5=true->d 4=true->d 3=true->d 2=true->d 1=true->d 0=true->∀ e f g h i j k l m p q,o d e f g h i j k l m p q->
 CondV e (
 R (.returned (.bool false)) q) (
 RR (aG .add 3 false true b (.int .i64 1)) q fun d e=>
 a d e/\c d e<c b n))) (
 R (.returned (.bool true)) p)))
theorem rH {p0 p1:Value} {w:World} {R:Ending->World->Prop} (h:nM p0 p1 w R):Calls Tryz.prog 39 #[p0,p1] w R:=
  aQ (.seq none .leaf (.seq none .leaf (.seq none (.seq none .leaf (.one (.loop [5] .leaf))) .leaf))) [p0,p1] bl Tryz.func39 (by kernel_rfl) (by kernel_rfl) h


/- loop.example/prologserver/impl.proofScan : function 41 -/
def mt (p0 p1 p2:Value) (w:World) (R:Ending->World->Prop):Prop:=
 RR (sOp (.box 39 (.const p0)) 0) w fun a b=>
 RR (sOp (.box 3 (.const p1)) 0) b fun b c=>
 RR (sOp (.box 70 (.const p2)) 0) c fun c d=>
 RR (sOp (.load 70 (.const c)) 70) d fun d e=>
 RR (sOp (.nilCheck (.const d)) 0) e fun e f=>
 RR (sOp (.load 3 (.const e)) 3) f fun e f=>
 RR (aG .add 3 false true e (.int .i64 1)) f fun e f=>
 RR (sOp (.nilCheck (.const d)) 0) f fun d f=>
 RR (sOp (.store 3 (.const d) (.const e)) 0) f fun _ d=>
 (∃ e:Value->World->Prop,(
 RR (sOp (.load 70 (.const c)) 70) d fun c d=>
 RR (sOp (.nilCheck (.const c)) 0) d fun c d=>
 RR (sOp (.load 3 (.const c)) 3) d fun c d=>
 RR (aG .gtr 3 false true c (.int .i64 60)) d fun c d=>
 ((fun a:VW=>ak c false (
 RR (sOp (.load 3 (.const b)) 3) d fun b d=>
 RR (aG .gtr 3 false true b (.int .i64 20)) d fun b d=>
 RR (sOp (.pick (.const c) (.const (.bool true)) (.const b)) 4) d fun b c=>a b c) (
 RR (sOp (.pick (.const c) (.const (.bool true)) (.const undef)) 4) d fun b c=>a b c)) fun b c=>
 ((fun d:VW=>ak b false (
 RR (sOp (.fieldAddr 39 (.const a) 0) 0) c fun a c=>
 RR (sOp (.load 36 (.const a)) 36) c fun a c=>
 RR (aN (.func (.func 63) #[] #[]) [a]) c fun a c=>
 RR (sOp (.unOp .not 4 (.const a)) 4) c fun a c=>
 RR (sOp (.pick (.const b) (.const (.bool true)) (.const a)) 4) c fun a b=>d a b) (
 RR (sOp (.pick (.const b) (.const (.bool true)) (.const undef)) 4) c fun a b=>d a b)) fun b c=>
 ((fun d:VW=>ak b false (
 RR (sOp (.fieldAddr 39 (.const a) 1) 0) c fun a c=>
 RR (sOp (.load 3 (.const a)) 3) c fun a c=>
 RR (aN (.func (.func 64) #[] #[]) [a,(.int .i64 (-1)),(.int .i64 19)]) c fun a c=>
 RR (sOp (.unOp .not 4 (.const a)) 4) c fun a c=>
 RR (sOp (.pick (.const b) (.const (.bool true)) (.const a)) 4) c fun a b=>d a b) (
 RR (sOp (.pick (.const b) (.const (.bool true)) (.const undef)) 4) c fun a b=>d a b)) fun b c=>
 ak b false (
 RR (sOp (.fieldAddr 39 (.const a) 2) 0) c fun a c=>
 RR (sOp (.load 37 (.const a)) 37) c fun a c=>
 RR (aM .len #[37] 3 [false] [a]) c fun a c=>
 RR (aG .gtr 3 false true a (.int .i64 6)) c fun a c=>
 RR (sOp (.pick (.const b) (.const (.bool true)) (.const a)) 4) c fun a b=>
 e a b) (
 RR (sOp (.pick (.const b) (.const (.bool true)) (.const undef)) 4) c fun a b=>
 e a b)))))/\
 ∀ d _ _ _ _ _ _ _ _ _ _ _ _ _ _ _ _ _ _ _ _ _ _ _ _ _:Value,∀ f:World,e d f->
 CondV d (
 R (.returned (.bool false)) f) (
 RR (sOp (.fieldAddr 39 (.const a) 2) 0) f fun a d=>
 RR (sOp (.load 37 (.const a)) 37) d fun a d=>
 RR (gx (.func 66) [] [b,c]) d fun b c=>
 RR (aN (.func (.func 65) #[] #[]) [a,b]) c fun a b=>
 RR (sOp (.unOp .not 4 (.const a)) 4) b fun a b=>
 R (.returned a) b))
theorem pp {p0 p1 p2:Value} {w:World} {R:Ending->World->Prop} (h:mt p0 p1 p2 w R):Calls Tryz.prog 41 #[p0,p1,p2] w R:=
  aQ (.seq none .leaf (.seq none .leaf (.seq none (.seq (some [37]) .leaf .leaf) .leaf))) [p0,p1,p2] bl Tryz.func41 (by kernel_rfl) (by kernel_rfl) h


/- loop.example/prologserver/spec.l13Size : function 42 -/
def qJ (p0 p1:Value) (w:World) (R:Ending->World->Prop):Prop:=
 RR (sOp (.box 39 (.const p0)) 0) w fun a b=>
 (∃ (c:Value->Value->World->Prop) (d:Value->Value->World->Nat),c (.int .i64 0) (.int .i64 1) b/\
 ∀ b _ _ e _ _ _ _ _ _ _ _ _ _ _ _ _ _ _ _ _ _ _ _ _:Value,∀ f:World,c b e f->
 (∃ g:Value->World->Prop,(
 RR (sOp (.fieldAddr 39 (.const a) 2) 0) f fun a c=>
 RR (sOp (.load 37 (.const a)) 37) c fun a c=>
 RR (aM .len #[37] 3 [false] [a]) c fun a c=>
 RR (aG .lss 3 false false b a) c fun a b=>
 ak a true (
 RR (aG .leq 3 false false e p1) b fun b c=>
 RR (sOp (.pick (.const a) (.const b) (.const (.bool false))) 4) c fun a b=>
 g a b) (
 RR (sOp (.pick (.const a) (.const undef) (.const (.bool false))) 4) b fun a b=>
 g a b))/\
 ∀ h _ _ _ _ _ _ _ _ _:Value,∀ i:World,g h i->
 CondV h (
 RR (sOp (.fieldAddr 39 (.const a) 2) 0) i fun a g=>
 RR (sOp (.load 37 (.const a)) 37) g fun a g=>
 RR (sOp (.indexAddr 37 (.const a) (.const b)) 0) g fun a g=>
 RR (sOp (.load 39 (.const a)) 39) g fun a g=>
 RR (aG .sub 3 false false p1 e) g fun g h=>
 RR (aN (.func (.func 42) #[] #[]) [a,g]) h fun a g=>
 RR (aG .add 3 false false e a) g fun a g=>
 RR (aG .add 3 false true b (.int .i64 1)) g fun g h=>
 c g a h/\d g a h<d b e f) (
 R (.returned e) i)))
theorem tC {p0 p1:Value} {w:World} {R:Ending->World->Prop} (h:qJ p0 p1 w R):Calls Tryz.prog 42 #[p0,p1] w R:=
  aQ (.seq none .leaf (.seq none .leaf (.seq none (.seq none .leaf (.one (.loop [6,5] (.seq none (.seq (some [16]) .leaf .leaf) .leaf)))) .leaf))) [p0,p1] bl Tryz.func42 (by kernel_rfl) (by kernel_rfl) h


/- slices.ContainsFunc[[]loop.example/prologserver/impl.Clause,loop.example/prologserver/impl.Clause] : function 50 -/
def fx (p0 p1:Value) (w:World) (R:Ending->World->Prop):Prop:=
 RR (aN (.func (.func 75) #[] #[]) [p0,p1]) w fun a b=>
 RR (aG .geq 3 false true a (.int .i64 0)) b fun a b=>
 R (.returned a) b
theorem ia {p0 p1:Value} {w:World} {R:Ending->World->Prop} (h:fx p0 p1 w R):Calls Tryz.prog 50 #[p0,p1] w R:=
  aQ .leaf [p0,p1] bl Tryz.func50 (by kernel_rfl) (by kernel_rfl) h


/- loop.example/prologserver/impl.ProgramValid$1 : function 51 -/
def hC (p0:Value) (w:World) (R:Ending->World->Prop):Prop:=
 RR (sOp (.box 56 (.const p0)) 0) w fun a b=>
 RR (sOp (.load 56 (.const a)) 56) b fun a b=>
 RR (aN (.func (.func 52) #[] #[]) [a]) b fun a b=>
 RR (sOp (.unOp .not 4 (.const a)) 4) b fun a b=>
 R (.returned a) b
theorem kH {p0:Value} {w:World} {R:Ending->World->Prop} (h:hC p0 w R):Calls Tryz.prog 51 #[p0] w R:=
  aQ .leaf [p0] bl Tryz.func51 (by kernel_rfl) (by kernel_rfl) h


/- loop.example/prologserver/impl.ClauseValid : function 52 -/
def jo (p0:Value) (w:World) (R:Ending->World->Prop):Prop:=
 RR (sOp (.box 56 (.const p0)) 0) w fun a b=>
 RR (sOp (.fieldAddr 56 (.const a) 0) 0) b fun b c=>
 RR (sOp (.load 36 (.const b)) 36) c fun b c=>
 RR (aN (.func (.func 76) #[] #[]) [b]) c fun b c=>
 ((fun d:VW=>ak b true (
 RR (sOp (.fieldAddr 56 (.const a) 0) 0) c fun a c=>
 RR (sOp (.load 36 (.const a)) 36) c fun a c=>
 RR (aN (.func (.func 77) #[] #[]) [a]) c fun a c=>
 RR (sOp (.pick (.const b) (.const a) (.const (.bool false))) 4) c fun a b=>d a b) (
 RR (sOp (.pick (.const b) (.const undef) (.const (.bool false))) 4) c fun a b=>d a b)) fun b c=>
 ak b true (
 RR (sOp (.fieldAddr 56 (.const a) 1) 0) c fun a c=>
 RR (sOp (.load 34 (.const a)) 34) c fun a c=>
 RR (aN (.func (.func 78) #[] #[]) [a]) c fun a c=>
 RR (sOp (.pick (.const b) (.const a) (.const (.bool false))) 4) c fun a b=>
 R (.returned a) b) (
 RR (sOp (.pick (.const b) (.const undef) (.const (.bool false))) 4) c fun a b=>
 R (.returned a) b))
theorem mL {p0:Value} {w:World} {R:Ending->World->Prop} (h:jo p0 w R):Calls Tryz.prog 52 #[p0] w R:=
  aQ .leaf [p0] bl Tryz.func52 (by kernel_rfl) (by kernel_rfl) h


/- loop.example/prologserver/laws.szTermS : function 53 -/
def pG (p0 p1:Value) (w:World) (R:Ending->World->Prop):Prop:=
 RR (aM .len #[23] 3 [false] [p0]) w fun a b=>
 RR (aG .sub 3 false false p1 a) b fun a b=>
 RR (aG .lss 3 false true a (.int .i64 0)) b fun b c=>
 CondV b (
 R (.returned (.int .i64 (-1))) c) (
 (∃ (b:Value->Value->World->Prop) (d:Value->Value->World->Nat),b (.int .i64 0) a c/\
 ∀ a _ _ _ _ _ c _ _ _ _ _ _ _ _ _ _:Value,∀ e:World,b a c e->
 RR (aM .len #[23] 3 [false] [p0]) e fun f g=>
 RR (aG .lss 3 false false a f) g fun f g=>
 CondV f (
 RR (sOp (.indexAddr 23 (.const p0) (.const a)) 0) g fun f g=>
 RR (sOp (.load 25 (.const f)) 25) g fun f g=>
 RR (aN (.func (.func 28) #[] #[]) [f,c]) g fun f g=>
 RR (aG .lss 3 false true f (.int .i64 0)) g fun g h=>
 CondV g (
 R (.returned (.int .i64 (-1))) h) (
 RR (aG .add 3 false true a (.int .i64 1)) h fun g h=>
 b g f h/\d g f h<d a c e)) (
 R (.returned c) g)))
theorem te {p0 p1:Value} {w:World} {R:Ending->World->Prop} (h:pG p0 p1 w R):Calls Tryz.prog 53 #[p0,p1] w R:=
  aQ (.seq none .leaf (.seq none .leaf (.seq none .leaf (.seq none (.seq none .leaf (.one (.loop [5,1] .leaf))) .leaf)))) [p0,p1] bl Tryz.func53 (by kernel_rfl) (by kernel_rfl) h


/- loop.example/prologserver/spec.ClauseValid : function 54 -/
def jv (p0:Value) (w:World) (R:Ending->World->Prop):Prop:=
 RR (sOp (.box 56 (.const p0)) 0) w fun a b=>
 (∃ (c:Value->World->Prop) (d:Value->World->Nat),c (.int .i64 0) b/\
 ∀ b _ _ _ _ _ _ _ _ _ _ _ _ _ _ _ _ _ _ _:Value,∀ e:World,c b e->
 (∃ f:Value->World->Prop,(
 RR (sOp (.fieldAddr 56 (.const a) 1) 0) e fun a c=>
 RR (sOp (.load 34 (.const a)) 34) c fun a c=>
 RR (aM .len #[34] 3 [false] [a]) c fun a c=>
 RR (aG .lss 3 false false b a) c fun a c=>
 ak a true (
 RR (aG .leq 3 false true b (.int .i64 6)) c fun b c=>
 RR (sOp (.pick (.const a) (.const b) (.const (.bool false))) 4) c fun a b=>
 f a b) (
 RR (sOp (.pick (.const a) (.const undef) (.const (.bool false))) 4) c fun a b=>
 f a b))/\
 ∀ g _ _ _ _ _ _ _ _:Value,∀ h:World,f g h->
 CondV g (
 RR (sOp (.fieldAddr 56 (.const a) 1) 0) h fun a f=>
 RR (sOp (.load 34 (.const a)) 34) f fun a f=>
 RR (sOp (.indexAddr 34 (.const a) (.const b)) 0) f fun a f=>
 RR (sOp (.load 36 (.const a)) 36) f fun a f=>
 RR (aN (.func (.func 79) #[] #[]) [a]) f fun a f=>
 RR (sOp (.unOp .not 4 (.const a)) 4) f fun a f=>
 CondV a (
 R (.returned (.bool false)) f) (
 RR (aG .add 3 false true b (.int .i64 1)) f fun a f=>
 c a f/\d a f<d b e)) (
 RR (sOp (.fieldAddr 56 (.const a) 1) 0) h fun b c=>
 RR (sOp (.load 34 (.const b)) 34) c fun b c=>
 RR (aM .len #[34] 3 [false] [b]) c fun b c=>
 RR (aG .leq 3 false true b (.int .i64 6)) c fun b c=>
 ((fun d:VW=>ak b true (
 RR (sOp (.fieldAddr 56 (.const a) 0) 0) c fun a c=>
 RR (sOp (.load 36 (.const a)) 36) c fun a c=>
 RR (aN (.func (.func 80) #[] #[]) [a]) c fun a c=>
 RR (sOp (.pick (.const b) (.const a) (.const (.bool false))) 4) c fun a b=>d a b) (
 RR (sOp (.pick (.const b) (.const undef) (.const (.bool false))) 4) c fun a b=>d a b)) fun b c=>
 ak b true (
 RR (sOp (.fieldAddr 56 (.const a) 0) 0) c fun a c=>
 RR (sOp (.load 36 (.const a)) 36) c fun a c=>
 RR (aN (.func (.func 81) #[] #[]) [a]) c fun a c=>
 RR (sOp (.pick (.const b) (.const a) (.const (.bool false))) 4) c fun a b=>
 R (.returned a) b) (
 RR (sOp (.pick (.const b) (.const undef) (.const (.bool false))) 4) c fun a b=>
 R (.returned a) b)))))
theorem mP {p0:Value} {w:World} {R:Ending->World->Prop} (h:jv p0 w R):Calls Tryz.prog 54 #[p0] w R:=
  aQ (.seq none .leaf (.seq none (.seq none .leaf (.one (.loop [3] (.seq none (.seq (some [12]) .leaf .leaf) .leaf)))) .leaf)) [p0] bl Tryz.func54 (by kernel_rfl) (by kernel_rfl) h


/- loop.example/prologserver/spec.l13Shape : function 55 -/
def ne (p0 p1:Value) (w:World) (R:Ending->World->Prop):Prop:=
 RR (sOp (.box 39 (.const p0)) 0) w fun a b=>
 (∃ c:Value->World->Prop,(
 RR (aG .lss 3 false true p1 (.int .i64 1)) b fun b d=>
 ((fun c:VW=>ak b false (
 RR (sOp (.fieldAddr 39 (.const a) 0) 0) d fun a d=>
 RR (sOp (.load 36 (.const a)) 36) d fun a d=>
 RR (aN (.func (.func 79) #[] #[]) [a]) d fun a d=>
 RR (sOp (.unOp .not 4 (.const a)) 4) d fun a d=>
 RR (sOp (.pick (.const b) (.const (.bool true)) (.const a)) 4) d fun a b=>c a b) (
 RR (sOp (.pick (.const b) (.const (.bool true)) (.const undef)) 4) d fun a b=>c a b)) fun b d=>
 ((fun c:VW=>ak b false (
 RR (sOp (.fieldAddr 39 (.const a) 1) 0) d fun a d=>
 RR (sOp (.load 3 (.const a)) 3) d fun a d=>
 RR (aG .lss 3 false true a (.int .i64 (-1))) d fun a d=>
 RR (sOp (.pick (.const b) (.const (.bool true)) (.const a)) 4) d fun a b=>c a b) (
 RR (sOp (.pick (.const b) (.const (.bool true)) (.const undef)) 4) d fun a b=>c a b)) fun b d=>
 ((fun c:VW=>ak b false (
 RR (sOp (.fieldAddr 39 (.const a) 1) 0) d fun a d=>
 RR (sOp (.load 3 (.const a)) 3) d fun a d=>
 RR (aG .geq 3 false true a (.int .i64 20)) d fun a d=>
 RR (sOp (.pick (.const b) (.const (.bool true)) (.const a)) 4) d fun a b=>c a b) (
 RR (sOp (.pick (.const b) (.const (.bool true)) (.const undef)) 4) d fun a b=>c a b)) fun b d=>
 ak b false (
 RR (sOp (.fieldAddr 39 (.const a) 2) 0) d fun a d=>
 RR (sOp (.load 37 (.const a)) 37) d fun a d=>
 RR (aM .len #[37] 3 [false] [a]) d fun a d=>
 RR (aG .gtr 3 false true a (.int .i64 6)) d fun a d=>
 RR (sOp (.pick (.const b) (.const (.bool true)) (.const a)) 4) d fun a b=>
 c a b) (
 RR (sOp (.pick (.const b) (.const (.bool true)) (.const undef)) 4) d fun a b=>
 c a b)))))/\
 ∀ b _ _ _ _ _ _ _ _ _ _ _ _ _ _ _ _ _ _ _ _ _ _ _:Value,∀ d:World,c b d->
 CondV b (
 R (.returned (.bool false)) d) (
 (∃ (b:Value->World->Prop) (c:Value->World->Nat),b (.int .i64 0) d/\
 ∀ d _ _ _ _ _ _ _ _ _ _ _ _ _ _ _ _ _:Value,∀ e:World,b d e->
 RR (sOp (.fieldAddr 39 (.const a) 2) 0) e fun f g=>
 RR (sOp (.load 37 (.const f)) 37) g fun f g=>
 RR (aM .len #[37] 3 [false] [f]) g fun f g=>
 RR (aG .lss 3 false false d f) g fun f g=>
 CondV f (
 RR (sOp (.fieldAddr 39 (.const a) 2) 0) g fun a f=>
 RR (sOp (.load 37 (.const a)) 37) f fun a f=>
 RR (sOp (.indexAddr 37 (.const a) (.const d)) 0) f fun a f=>
 RR (sOp (.load 39 (.const a)) 39) f fun a f=>
 RR (aG .sub 3 false true p1 (.int .i64 1)) f fun f g=>
 RR (aN (.func (.func 55) #[] #[]) [a,f]) g fun a f=>
 RR (sOp (.unOp .not 4 (.const a)) 4) f fun a f=>
 CondV a (
 R (.returned (.bool false)) f) (
 RR (aG .add 3 false true d (.int .i64 1)) f fun a f=>
 b a f/\c a f<c d e)) (
 R (.returned (.bool true)) g))))
theorem qV {p0 p1:Value} {w:World} {R:Ending->World->Prop} (h:ne p0 p1 w R):Calls Tryz.prog 55 #[p0,p1] w R:=
  aQ (.seq none .leaf (.seq none (.seq (some [29]) .leaf .leaf) (.seq none (.seq none .leaf (.one (.loop [5] .leaf))) .leaf))) [p0,p1] bl Tryz.func55 (by kernel_rfl) (by kernel_rfl) h


/- loop.example/prologserver/spec.l13Node : function 56 -/
def pm (p0 p1:Value) (w:World) (R:Ending->World->Prop):Prop:=
 RR (sOp (.box 39 (.const p1)) 0) w fun a b=>
 RR (sOp (.fieldAddr 39 (.const a) 1) 0) b fun b c=>
 RR (sOp (.load 3 (.const b)) 3) c fun b c=>
 RR (aG .lss 3 false true b (.int .i64 0)) c fun b c=>
 CondV b (
 RR (sOp (.fieldAddr 39 (.const a) 2) 0) c fun b c=>
 RR (sOp (.load 37 (.const b)) 37) c fun b c=>
 RR (aM .len #[37] 3 [false] [b]) c fun b c=>
 RR (aG .eql 3 false true b (.int .i64 0)) c fun b c=>
 ((fun d:VW=>ak b true (
 RR (sOp (.fieldAddr 39 (.const a) 0) 0) c fun c e=>
 RR (sOp (.fieldAddr 36 (.const c) 2) 0) e fun c e=>
 RR (sOp (.load 9 (.const c)) 9) e fun c e=>
 RR (sOp (.fieldAddr 39 (.const a) 0) 0) e fun a e=>
 RR (sOp (.fieldAddr 36 (.const a) 3) 0) e fun a e=>
 RR (sOp (.load 34 (.const a)) 34) e fun a e=>
 RR (aM .len #[34] 3 [false] [a]) e fun a e=>
 RR (aN (.func (.func 82) #[] #[]) [c,a]) e fun a c=>
 RR (sOp (.pick (.const b) (.const a) (.const (.bool false))) 4) c fun a b=>d a b) (
 RR (sOp (.pick (.const b) (.const undef) (.const (.bool false))) 4) c fun a b=>d a b)) fun b c=>
 ak b true (
 RR (sOp (.fieldAddr 39 (.const a) 0) 0) c fun a c=>
 RR (sOp (.load 36 (.const a)) 36) c fun a c=>
 RR (aN (.func (.func 83) #[] #[]) [a]) c fun a c=>
 RR (sOp (.pick (.const b) (.const a) (.const (.bool false))) 4) c fun a b=>
 R (.returned a) b) (
 RR (sOp (.pick (.const b) (.const undef) (.const (.bool false))) 4) c fun a b=>
 R (.returned a) b))) (
 (∃ b:(Nat->Bool)->Value->Value->Value->Value->Value->Value->Value->Value->Value->Value->Value->Value->Value->Value->Value->Value->Value->Value->World->Prop,b (fun _=>false) undef undef undef undef undef undef undef undef undef undef undef undef undef undef undef undef undef undef { c with drawn:=c.drawn+1 }/\(
 (∀ c:Nat->Bool,c 0=false->∀ d e f g h i j k l m n o p q r s t u v,b c d e f g h i j k l m n o p q r s t u v->
 RR (sOp (.fieldAddr 39 (.const a) 1) 0) v fun a u=>
 b (aD c 0) d e f g h i j k l m n o p q r s t a u)/\
 (∀ a:Nat->Bool,a 1=false->a 0=true->∀ c d e f g h i j k l m n o p q r s t u,b a c d e f g h i j k l m n o p q r s t u->
 RR (sOp (.load 3 (.const t)) 3) u fun s u=>
 b (aD a 1) c d e f g h i j k l m n o p q r s t u)/\
 (∀ a:Nat->Bool,a 2=false->∀ c d e f g h i j k l m n o p q r s t u,b a c d e f g h i j k l m n o p q r s t u->
 b (aD a 2) c d e f g h i j k l m n o p q p0 s t u)/\
 (∀ a:Nat->Bool,a 3=false->a 2=true->∀ c d e f g h i j k l m n o p q r s t u,b a c d e f g h i j k l m n o p q r s t u->
 RR (aM .len #[32] 3 [false] [r]) u fun q u=>
 b (aD a 3) c d e f g h i j k l m n o p q r s t u)/\
 (∀ a:Nat->Bool,a 4=false->a 1=true->a 3=true->∀ c d e f g h i j k l m n o p q r s t u,b a c d e f g h i j k l m n o p q r s t u->
 RR (aG .geq 3 false false s q) u fun p u=>
 b (aD a 4) c d e f g h i j k l m n o p q r s t u)/\
 (∀ a:Nat->Bool,a 5=false->a 4=true->∀ c d e f g h i j k l m n o p q r s t u,b a c d e f g h i j k l m n o p q r s t u->
 b (aD a 5) c d e f g h i j k l m n p p q r s t u)/\
 (∀ c:Nat->Bool,c 6=false->c 5=true->∀ d e f g h i j k l m n o p q r s t u v,b c d e f g h i j k l m n o p q r s t u v->
 ak p false (RR (sOp (.fieldAddr 39 (.const a) 2) 0) v fun a o=>
 b (aD c 6) d e f g h i j k l m n a p q r s t u o) (b (aD c 6) d e f g h i j k l m n undef p q r s t u v))/\
 (∀ a:Nat->Bool,a 7=false->a 6=true->a 5=true->∀ c d e f g h i j k l m n o p q r s t u,b a c d e f g h i j k l m n o p q r s t u->
 ak o false (RR (sOp (.load 37 (.const n)) 37) u fun m u=>
 b (aD a 7) c d e f g h i j k l m n o p q r s t u) (b (aD a 7) c d e f g h i j k l undef n o p q r s t u))/\
 (∀ a:Nat->Bool,a 8=false->a 7=true->a 5=true->∀ c d e f g h i j k l m n o p q r s t u,b a c d e f g h i j k l m n o p q r s t u->
 ak o false (RR (aM .len #[37] 3 [false] [m]) u fun l u=>
 b (aD a 8) c d e f g h i j k l m n o p q r s t u) (b (aD a 8) c d e f g h i j k undef m n o p q r s t u))/\
 (∀ a:Nat->Bool,a 9=false->a 5=true->∀ c d e f g h i j k l m n o p q r s t u,b a c d e f g h i j k l m n o p q r s t u->
 ak o false (b (aD a 9) c d e f g h i j p0 l m n o p q r s t u) (b (aD a 9) c d e f g h i j undef l m n o p q r s t u))/\
 (∀ c:Nat->Bool,c 10=false->c 5=true->∀ d e f g h i j k l m n o p q r s t u v,b c d e f g h i j k l m n o p q r s t u v->
 ak p false (RR (sOp (.fieldAddr 39 (.const a) 1) 0) v fun a k=>
 b (aD c 10) d e f g h i j a l m n o p q r s t u k) (b (aD c 10) d e f g h i j undef l m n o p q r s t u v))/\
 (∀ a:Nat->Bool,a 11=false->a 10=true->a 5=true->∀ c d e f g h i j k l m n o p q r s t u,b a c d e f g h i j k l m n o p q r s t u->
 ak o false (RR (sOp (.load 3 (.const j)) 3) u fun i u=>
 b (aD a 11) c d e f g h i j k l m n o p q r s t u) (b (aD a 11) c d e f g h undef j k l m n o p q r s t u))/\
 (∀ a:Nat->Bool,a 12=false->a 9=true->a 11=true->a 5=true->∀ c d e f g h i j k l m n o p q r s t u,b a c d e f g h i j k l m n o p q r s t u->
 ak o false (RR (sOp (.indexAddr 32 (.const k) (.const i)) 0) u fun h u=>
 b (aD a 12) c d e f g h i j k l m n o p q r s t u) (b (aD a 12) c d e f g undef i j k l m n o p q r s t u))/\
 (∀ a:Nat->Bool,a 13=false->a 12=true->a 5=true->∀ c d e f g h i j k l m n o p q r s t u,b a c d e f g h i j k l m n o p q r s t u->
 ak o false (RR (sOp (.fieldAddr 56 (.const h) 1) 0) u fun g u=>
 b (aD a 13) c d e f g h i j k l m n o p q r s t u) (b (aD a 13) c d e f undef h i j k l m n o p q r s t u))/\
 (∀ a:Nat->Bool,a 14=false->a 13=true->a 5=true->∀ c d e f g h i j k l m n o p q r s t u,b a c d e f g h i j k l m n o p q r s t u->
 ak o false (RR (sOp (.load 34 (.const g)) 34) u fun f u=>
 b (aD a 14) c d e f g h i j k l m n o p q r s t u) (b (aD a 14) c d e undef g h i j k l m n o p q r s t u))/\
 (∀ a:Nat->Bool,a 15=false->a 14=true->a 5=true->∀ c d e f g h i j k l m n o p q r s t u,b a c d e f g h i j k l m n o p q r s t u->
 ak o false (RR (aM .len #[34] 3 [false] [f]) u fun e u=>
 b (aD a 15) c d e f g h i j k l m n o p q r s t u) (b (aD a 15) c d undef f g h i j k l m n o p q r s t u))/\
 (∀ a:Nat->Bool,a 16=false->a 8=true->a 15=true->a 5=true->∀ c d e f g h i j k l m n o p q r s t u,b a c d e f g h i j k l m n o p q r s t u->
 ak o false (RR (aG .neq 3 false false l e) u fun d u=>
 b (aD a 16) c d e f g h i j k l m n o p q r s t u) (b (aD a 16) c undef e f g h i j k l m n o p q r s t u))/\
 (∀ a:Nat->Bool,a 17=false->a 5=true->a 16=true->∀ c d e f g h i j k l m n o p q r s t u,b a c d e f g h i j k l m n o p q r s t u->
 RR (sOp (.pick (.const o) (.const (.bool true)) (.const d)) 4) u fun c u=>
 b (aD a 17) c d e f g h i j k l m n o p q r s t u)/\
 True)/\
 ∀ c:Nat->Bool,c 17=true->c 16=true->c 15=true->c 14=true->c 13=true->c 12=true->c 11=true->c 10=true->c 9=true->c 8=true->c 7=true->c 6=true->c 5=true->c 4=true->c 3=true->c 2=true->c 1=true->c 0=true->∀ d e f g h i j k l m n o p q r s t u v,b c d e f g h i j k l m n o p q r s t u v->
 CondV d (
 R (.returned (.bool false)) v) (
 RR (sOp (.fieldAddr 39 (.const a) 1) 0) v fun b c=>
 RR (sOp (.load 3 (.const b)) 3) c fun b c=>
 RR (sOp (.indexAddr 32 (.const p0) (.const b)) 0) c fun b c=>
 RR (sOp (.load 56 (.const b)) 56) c fun b c=>
 RR (sOp (.alloc 56) 0) c fun c d=>
 RR (sOp (.store 56 (.const c) (.const b)) 0) d fun _ b=>
 RR (sOp (.makeSlice 34 (.const (.int .i64 26)) (.const (.int .i64 26))) 34) b fun b d=>
 RR (sOp (.fieldAddr 56 (.const c) 0) 0) d fun d e=>
 RR (sOp (.load 36 (.const d)) 36) e fun d e=>
 RR (sOp (.fieldAddr 39 (.const a) 0) 0) e fun e f=>
 RR (sOp (.load 36 (.const e)) 36) f fun e f=>
 RR (aN (.func (.func 84) #[] #[]) [d,e,b]) f fun d e=>
 RR (sOp (.unOp .not 4 (.const d)) 4) e fun d e=>
 CondV d (
 R (.returned (.bool false)) e) (
 (∃ (d:Value->World->Prop) (f:Value->World->Nat),d (.int .i64 0) e/\
 ∀ e _ _ _ g h i j k l m n o p q r s t u v x y z A B C _ _ _ _ _:Value,∀ D:World,d e D->
 RR (sOp (.fieldAddr 56 (.const c) 1) 0) D fun E F=>
 RR (sOp (.load 34 (.const E)) 34) F fun E F=>
 RR (aM .len #[34] 3 [false] [E]) F fun E F=>
 RR (aG .lss 3 false false e E) F fun E F=>
 CondV E (
 (∃ E:(Nat->Bool)->Value->Value->Value->Value->Value->Value->Value->Value->Value->Value->Value->Value->Value->Value->Value->Value->Value->Value->Value->Value->Value->Value->World->Prop,E (fun _=>false) g h i j k l m n o p q r s t u v x y z A B C { F with drawn:=F.drawn+1 }/\(
 (∀ a:Nat->Bool,a 0=false->∀ b d e f g h i j k l m n o p q r s t u v x y z,E a b d e f g h i j k l m n o p q r s t u v x y z->
 RR (sOp (.fieldAddr 56 (.const c) 1) 0) z fun c y=>
 E (aD a 0) b d e f g h i j k l m n o p q r s t u v x c y)/\
 (∀ a:Nat->Bool,a 1=false->a 0=true->∀ b c d e f g h i j k l m n o p q r s t u v x y,E a b c d e f g h i j k l m n o p q r s t u v x y->
 RR (sOp (.load 34 (.const x)) 34) y fun v y=>
 E (aD a 1) b c d e f g h i j k l m n o p q r s t u v x y)/\
 (∀ a:Nat->Bool,a 2=false->∀ b c d f g h i j k l m n o p q r s t u v x y z,E a b c d f g h i j k l m n o p q r s t u v x y z->
 E (aD a 2) b c d f g h i j k l m n o p q r s t u e x y z)/\
 (∀ a:Nat->Bool,a 3=false->a 1=true->a 2=true->∀ b c d e f g h i j k l m n o p q r s t u v x y,E a b c d e f g h i j k l m n o p q r s t u v x y->
 RR (sOp (.indexAddr 34 (.const v) (.const u)) 0) y fun t y=>
 E (aD a 3) b c d e f g h i j k l m n o p q r s t u v x y)/\
 (∀ a:Nat->Bool,a 4=false->a 3=true->∀ b c d e f g h i j k l m n o p q r s t u v x y,E a b c d e f g h i j k l m n o p q r s t u v x y->
 RR (sOp (.load 36 (.const t)) 36) y fun s y=>
 E (aD a 4) b c d e f g h i j k l m n o p q r s t u v x y)/\
 (∀ a:Nat->Bool,a 5=false->a 4=true->∀ b c d e f g h i j k l m n o p q r s t u v x y,E a b c d e f g h i j k l m n o p q r s t u v x y->
 RR (aN (.func (.func 85) #[] #[]) [s]) y fun r y=>
 E (aD a 5) b c d e f g h i j k l m n o p q r s t u v x y)/\
 (∀ a:Nat->Bool,a 6=false->a 5=true->a 5=true->∀ b c d e f g h i j k l m n o p q r s t u v x y,E a b c d e f g h i j k l m n o p q r s t u v x y->
 E (aD a 6) b c d e f g h i j k l m n o p r r s t u v x y)/\
 (∀ a:Nat->Bool,a 7=false->a 6=true->∀ b d e f g h i j k l m n o p q r s t u v x y z,E a b d e f g h i j k l m n o p q r s t u v x y z->
 ak r false (RR (sOp (.fieldAddr 56 (.const c) 1) 0) z fun c q=>
 E (aD a 7) b d e f g h i j k l m n o p c r s t u v x y q) (E (aD a 7) b d e f g h i j k l m n o p undef r s t u v x y z))/\
 (∀ a:Nat->Bool,a 8=false->a 7=true->a 6=true->∀ b c d e f g h i j k l m n o p q r s t u v x y,E a b c d e f g h i j k l m n o p q r s t u v x y->
 ak q false (RR (sOp (.load 34 (.const p)) 34) y fun o y=>
 E (aD a 8) b c d e f g h i j k l m n o p q r s t u v x y) (E (aD a 8) b c d e f g h i j k l m n undef p q r s t u v x y))/\
 (∀ a:Nat->Bool,a 9=false->a 6=true->∀ b c d f g h i j k l m n o p q r s t u v x y z,E a b c d f g h i j k l m n o p q r s t u v x y z->
 ak r false (E (aD a 9) b c d f g h i j k l m n e p q r s t u v x y z) (E (aD a 9) b c d f g h i j k l m n undef p q r s t u v x y z))/\
 (∀ a:Nat->Bool,a 10=false->a 8=true->a 9=true->a 6=true->∀ b c d e f g h i j k l m n o p q r s t u v x y,E a b c d e f g h i j k l m n o p q r s t u v x y->
 ak q false (RR (sOp (.indexAddr 34 (.const o) (.const n)) 0) y fun m y=>
 E (aD a 10) b c d e f g h i j k l m n o p q r s t u v x y) (E (aD a 10) b c d e f g h i j k l undef n o p q r s t u v x y))/\
 (∀ a:Nat->Bool,a 11=false->a 10=true->a 6=true->∀ b c d e f g h i j k l m n o p q r s t u v x y,E a b c d e f g h i j k l m n o p q r s t u v x y->
 ak q false (RR (sOp (.load 36 (.const m)) 36) y fun l y=>
 E (aD a 11) b c d e f g h i j k l m n o p q r s t u v x y) (E (aD a 11) b c d e f g h i j k undef m n o p q r s t u v x y))/\
 (∀ b:Nat->Bool,b 12=false->b 6=true->∀ c d e f g h i j k l m n o p q r s t u v x y z,E b c d e f g h i j k l m n o p q r s t u v x y z->
 ak r false (RR (sOp (.fieldAddr 39 (.const a) 2) 0) z fun a l=>
 E (aD b 12) c d e f g h i j k a m n o p q r s t u v x y l) (E (aD b 12) c d e f g h i j k undef m n o p q r s t u v x y z))/\
 (∀ a:Nat->Bool,a 13=false->a 12=true->a 6=true->∀ b c d e f g h i j k l m n o p q r s t u v x y,E a b c d e f g h i j k l m n o p q r s t u v x y->
 ak q false (RR (sOp (.load 37 (.const k)) 37) y fun j y=>
 E (aD a 13) b c d e f g h i j k l m n o p q r s t u v x y) (E (aD a 13) b c d e f g h i undef k l m n o p q r s t u v x y))/\
 (∀ a:Nat->Bool,a 14=false->a 6=true->∀ b c d f g h i j k l m n o p q r s t u v x y z,E a b c d f g h i j k l m n o p q r s t u v x y z->
 ak r false (E (aD a 14) b c d f g h i e k l m n o p q r s t u v x y z) (E (aD a 14) b c d f g h i undef k l m n o p q r s t u v x y z))/\
 (∀ a:Nat->Bool,a 15=false->a 13=true->a 14=true->a 6=true->∀ b c d e f g h i j k l m n o p q r s t u v x y,E a b c d e f g h i j k l m n o p q r s t u v x y->
 ak q false (RR (sOp (.indexAddr 37 (.const j) (.const i)) 0) y fun h y=>
 E (aD a 15) b c d e f g h i j k l m n o p q r s t u v x y) (E (aD a 15) b c d e f g undef i j k l m n o p q r s t u v x y))/\
 (∀ a:Nat->Bool,a 16=false->a 15=true->a 6=true->∀ b c d e f g h i j k l m n o p q r s t u v x y,E a b c d e f g h i j k l m n o p q r s t u v x y->
 ak q false (RR (sOp (.fieldAddr 39 (.const h) 0) 0) y fun g y=>
 E (aD a 16) b c d e f g h i j k l m n o p q r s t u v x y) (E (aD a 16) b c d e f undef h i j k l m n o p q r s t u v x y))/\
 (∀ a:Nat->Bool,a 17=false->a 16=true->a 6=true->∀ b c d e f g h i j k l m n o p q r s t u v x y,E a b c d e f g h i j k l m n o p q r s t u v x y->
 ak q false (RR (sOp (.load 36 (.const g)) 36) y fun f y=>
 E (aD a 17) b c d e f g h i j k l m n o p q r s t u v x y) (E (aD a 17) b c d e undef g h i j k l m n o p q r s t u v x y))/\
 (∀ a:Nat->Bool,a 18=false->a 6=true->∀ c d e f g h i j k l m n o p q r s t u v x y z,E a c d e f g h i j k l m n o p q r s t u v x y z->
 ak r false (E (aD a 18) c d e b g h i j k l m n o p q r s t u v x y z) (E (aD a 18) c d e undef g h i j k l m n o p q r s t u v x y z))/\
 (∀ a:Nat->Bool,a 19=false->a 11=true->a 17=true->a 18=true->a 6=true->a 6=true->∀ b c d e f g h i j k l m n o p q r s t u v x y,E a b c d e f g h i j k l m n o p q r s t u v x y->
 ak q false (RR (aN (.func (.func 84) #[] #[]) [l,f,e]) y fun d y=>
 E (aD a 19) b c d e f g h i j k l m n o p q r s t u v x y) (E (aD a 19) b c undef e f g h i j k l m n o p q r s t u v x y))/\
 (∀ a:Nat->Bool,a 20=false->a 19=true->a 6=true->∀ b c d e f g h i j k l m n o p q r s t u v x y,E a b c d e f g h i j k l m n o p q r s t u v x y->
 ak q false (RR (sOp (.unOp .not 4 (.const d)) 4) y fun c y=>
 E (aD a 20) b c d e f g h i j k l m n o p q r s t u v x y) (E (aD a 20) b undef d e f g h i j k l m n o p q r s t u v x y))/\
 (∀ a:Nat->Bool,a 21=false->a 6=true->a 20=true->∀ b c d e f g h i j k l m n o p q r s t u v x y,E a b c d e f g h i j k l m n o p q r s t u v x y->
 RR (sOp (.pick (.const q) (.const (.bool true)) (.const c)) 4) y fun b y=>
 E (aD a 21) b c d e f g h i j k l m n o p q r s t u v x y)/\
 True)/\
 ∀ a:Nat->Bool,a 21=true->a 20=true->a 19=true->a 18=true->a 17=true->a 16=true->a 15=true->a 14=true->a 13=true->a 12=true->a 11=true->a 10=true->a 9=true->a 8=true->a 7=true->a 6=true->a 5=true->a 4=true->a 3=true->a 2=true->a 1=true->a 0=true->∀ b c g h i j k l m n o p q r s t u v x y z A B,E a b c g h i j k l m n o p q r s t u v x y z A B->
 CondV b (
 R (.returned (.bool false)) B) (
 RR (aG .add 3 false true e (.int .i64 1)) B fun a b=>
 d a b/\f a b<f e D))) (
 R (.returned (.bool true)) F))))))
theorem tl {p0 p1:Value} {w:World} {R:Ending->World->Prop} (h:pm p0 p1 w R):Calls Tryz.prog 56 #[p0,p1] w R:=
  aQ (.seq none .leaf (.seq none .leaf (.seq none .leaf (.seq none .leaf (.seq none .leaf (.seq none .leaf (.seq none (.seq none .leaf (.one (.loop [7] .leaf))) .leaf))))))) [p0,p1] bl Tryz.func56 (by kernel_rfl) (by kernel_rfl) h


/- loop.example/prologserver/laws.toTermS : function 57 -/
def o4 (p0:Value) (w:World) (R:Ending->World->Prop):Prop:=
 RR (aM .len #[23] 3 [false] [p0]) w fun a b=>
 RR (sOp (.makeSlice 34 (.const a) (.const a)) 34) b fun a b=>
 (∃ (c:Value->World->Prop) (d:Value->World->Nat),c (.int .i64 0) b/\
 ∀ b _ _ _ _ _ _ _ _ _ _ _ _ _ _:Value,∀ e:World,c b e->
 RR (aM .len #[23] 3 [false] [p0]) e fun f g=>
 RR (aG .lss 3 false false b f) g fun f g=>
 CondV f (
 RR (sOp (.indexAddr 23 (.const p0) (.const b)) 0) g fun f g=>
 RR (sOp (.load 25 (.const f)) 25) g fun f g=>
 RR (aN (.func (.func 34) #[] #[]) [f]) g fun f g=>
 RR (sOp (.indexAddr 34 (.const a) (.const b)) 0) g fun a g=>
 RR (sOp (.store 36 (.const a) (.const f)) 0) g fun _ a=>
 RR (aG .add 3 false true b (.int .i64 1)) a fun a f=>
 c a f/\d a f<d b e) (
 R (.returned a) g))
theorem ua {p0:Value} {w:World} {R:Ending->World->Prop} (h:o4 p0 w R):Calls Tryz.prog 57 #[p0] w R:=
  aQ (.seq none .leaf (.seq none .leaf (.seq none (.seq none .leaf (.one (.loop [4] .leaf))) .leaf))) [p0] bl Tryz.func57 (by kernel_rfl) (by kernel_rfl) h


/- loop.example/prologserver/impl.CallBuiltin : function 58 -/
def jF (p0:Value) (w:World) (R:Ending->World->Prop):Prop:=
 RR (sOp (.box 36 (.const p0)) 0) w fun a b=>
 (∃ c:Value->World->Prop,(
 RR (sOp (.load 36 (.const a)) 36) b fun b d=>
 RR (aN (.func (.func 76) #[] #[]) [b]) d fun b d=>
 RR (sOp (.unOp .not 4 (.const b)) 4) d fun b d=>
 ak b false (
 RR (sOp (.load 36 (.const a)) 36) d fun a d=>
 RR (aN (.func (.func 59) #[] #[]) [a]) d fun a d=>
 RR (sOp (.unOp .not 4 (.const a)) 4) d fun a d=>
 RR (sOp (.pick (.const b) (.const (.bool true)) (.const a)) 4) d fun a b=>
 c a b) (
 RR (sOp (.pick (.const b) (.const (.bool true)) (.const undef)) 4) d fun a b=>
 c a b))/\
 ∀ b _ _ _ _ _ _ _:Value,∀ d:World,c b d->
 CondV b (
 R (.returned (.tuple #[(Value.slice none 0 0),(.int .i64 6)])) d) (
 RR (aN (.func (.func 86) #[] #[]) []) d fun b c=>
 RR (sOp (.load 36 (.const a)) 36) c fun a c=>
 RR (aN (.func (.func 87) #[] #[]) [b,a]) c fun a c=>
 RR (aG .neq 3 false true a (.int .i64 0)) c fun c d=>
 CondV c (
 R (.returned (.tuple #[(Value.slice none 0 0),a])) d) (
 RR (aN (.func (.func 88) #[] #[]) [b]) d fun a b=>
 RR (sOp (.extract (.const a) 0) 88) b fun b c=>
 RR (sOp (.extract (.const a) 1) 4) c fun a c=>
 RR (sOp (.unOp .not 4 (.const a)) 4) c fun a c=>
 CondV a (
 R (.returned (.tuple #[(Value.slice none 0 0),(.int .i64 5)])) c) (
 R (.returned (.tuple #[b,(.int .i64 0)])) c))))
theorem mO {p0:Value} {w:World} {R:Ending->World->Prop} (h:jF p0 w R):Calls Tryz.prog 58 #[p0] w R:=
  aQ (.seq none .leaf (.seq none (.seq (some [15]) .leaf .leaf) .leaf)) [p0] bl Tryz.func58 (by kernel_rfl) (by kernel_rfl) h


/- loop.example/prologserver/impl.isBuilt : function 59 -/
def oW (p0:Value) (w:World) (R:Ending->World->Prop):Prop:=
 RR (sOp (.box 36 (.const p0)) 0) w fun a b=>
 RR (sOp (.fieldAddr 36 (.const a) 0) 0) b fun b c=>
 RR (sOp (.load 3 (.const b)) 3) c fun b c=>
 RR (aG .eql 3 false true b (.int .i64 3)) c fun b c=>
 ak b true (
 RR (sOp (.fieldAddr 36 (.const a) 2) 0) c fun c d=>
 RR (sOp (.load 9 (.const c)) 9) d fun c d=>
 RR (sOp (.fieldAddr 36 (.const a) 3) 0) d fun a d=>
 RR (sOp (.load 34 (.const a)) 34) d fun a d=>
 RR (aM .len #[34] 3 [false] [a]) d fun a d=>
 RR (aN (.func (.func 89) #[] #[]) [c,a]) d fun a c=>
 RR (sOp (.pick (.const b) (.const a) (.const (.bool false))) 4) c fun a b=>
 R (.returned a) b) (
 RR (sOp (.pick (.const b) (.const undef) (.const (.bool false))) 4) c fun a b=>
 R (.returned a) b)
theorem th {p0:Value} {w:World} {R:Ending->World->Prop} (h:oW p0 w R):Calls Tryz.prog 59 #[p0] w R:=
  aQ .leaf [p0] bl Tryz.func59 (by kernel_rfl) (by kernel_rfl) h


/- loop.example/prologserver/impl.instance : function 60 -/
def nz (p0 p1 p2:Value) (w:World) (R:Ending->World->Prop):Prop:=
 RR (sOp (.box 36 (.const p0)) 0) w fun a b=>
 RR (sOp (.box 36 (.const p1)) 0) b fun b c=>
 RR (sOp (.fieldAddr 36 (.const b) 0) 0) c fun c d=>
 RR (sOp (.load 3 (.const c)) 3) d fun c d=>
 RR (aG .eql 3 false true c (.int .i64 1)) d fun c d=>
 CondV c (
 RR (sOp (.fieldAddr 36 (.const b) 1) 0) d fun c d=>
 RR (sOp (.load 3 (.const c)) 3) d fun c d=>
 RR (sOp (.lookup 92 (.const p2) (.const c) true) 118) d fun c d=>
 RR (sOp (.extract (.const c) 0) 36) d fun d e=>
 RR (sOp (.extract (.const c) 1) 4) e fun c e=>
 RR (sOp (.alloc 36) 0) e fun e f=>
 RR (sOp (.store 36 (.const e) (.const d)) 0) f fun _ d=>
 RR (sOp (.unOp .not 4 (.const c)) 4) d fun c d=>
 CondV c (
 RR (sOp (.fieldAddr 36 (.const b) 1) 0) d fun b c=>
 RR (sOp (.load 3 (.const b)) 3) c fun b c=>
 RR (sOp (.load 36 (.const a)) 36) c fun a c=>
 RR (sOp (.mapUpdate 92 (.const p2) (.const b) (.const a)) 0) c fun _ a=>
 R (.returned (.bool true)) a) (
 RR (sOp (.load 36 (.const e)) 36) d fun b c=>
 RR (sOp (.load 36 (.const a)) 36) c fun a c=>
 RR (aN (.func (.func 90) #[] #[]) [b,a]) c fun a b=>
 R (.returned a) b)) (
 (∃ c:Value->World->Prop,(
 RR (sOp (.fieldAddr 36 (.const a) 0) 0) d fun d e=>
 RR (sOp (.load 3 (.const d)) 3) e fun d e=>
 RR (sOp (.fieldAddr 36 (.const b) 0) 0) e fun e f=>
 RR (sOp (.load 3 (.const e)) 3) f fun e f=>
 RR (aG .neq 3 false false d e) f fun d e=>
 ((fun c:VW=>ak d false (
 RR (sOp (.fieldAddr 36 (.const a) 1) 0) e fun a e=>
 RR (sOp (.load 3 (.const a)) 3) e fun a e=>
 RR (sOp (.fieldAddr 36 (.const b) 1) 0) e fun b e=>
 RR (sOp (.load 3 (.const b)) 3) e fun b e=>
 RR (aG .neq 3 false false a b) e fun a b=>
 RR (sOp (.pick (.const d) (.const (.bool true)) (.const a)) 4) b fun a b=>c a b) (
 RR (sOp (.pick (.const d) (.const (.bool true)) (.const undef)) 4) e fun a b=>c a b)) fun d e=>
 ((fun c:VW=>ak d false (
 RR (sOp (.fieldAddr 36 (.const a) 2) 0) e fun a e=>
 RR (sOp (.load 9 (.const a)) 9) e fun a e=>
 RR (sOp (.fieldAddr 36 (.const b) 2) 0) e fun b e=>
 RR (sOp (.load 9 (.const b)) 9) e fun b e=>
 RR (aG .neq 9 false false a b) e fun a b=>
 RR (sOp (.pick (.const d) (.const (.bool true)) (.const a)) 4) b fun a b=>c a b) (
 RR (sOp (.pick (.const d) (.const (.bool true)) (.const undef)) 4) e fun a b=>c a b)) fun d e=>
 ak d false (
 RR (sOp (.fieldAddr 36 (.const a) 3) 0) e fun a e=>
 RR (sOp (.load 34 (.const a)) 34) e fun a e=>
 RR (aM .len #[34] 3 [false] [a]) e fun a e=>
 RR (sOp (.fieldAddr 36 (.const b) 3) 0) e fun b e=>
 RR (sOp (.load 34 (.const b)) 34) e fun b e=>
 RR (aM .len #[34] 3 [false] [b]) e fun b e=>
 RR (aG .neq 3 false false a b) e fun a b=>
 RR (sOp (.pick (.const d) (.const (.bool true)) (.const a)) 4) b fun a b=>
 c a b) (
 RR (sOp (.pick (.const d) (.const (.bool true)) (.const undef)) 4) e fun a b=>
 c a b))))/\
 ∀ d _ _ _ _ _ _ _ _ _ _ _ _ _ _ _ _ _ _ _ _ _ _ _ _ _ _ _:Value,∀ e:World,c d e->
 CondV d (
 R (.returned (.bool false)) e) (
 RR (sOp (.fieldAddr 36 (.const b) 3) 0) e fun c d=>
 RR (sOp (.load 34 (.const c)) 34) d fun c d=>
 RR (aM .len #[34] 3 [false] [c]) d fun c d=>
 (∃ (e:Value->World->Prop) (f:Value->World->Nat),e (.int .i64 0) d/\
 ∀ d _ _ g h i j k l m n o p q r s _ _ _:Value,∀ t:World,e d t->
 RR (aG .lss 3 false false d c) t fun c u=>
 CondV c (
 (∃ c:(Nat->Bool)->Value->Value->Value->Value->Value->Value->Value->Value->Value->Value->Value->Value->Value->World->Prop,c (fun _=>false) g h i j k l m n o p q r s { u with drawn:=u.drawn+1 }/\(
 (∀ b:Nat->Bool,b 0=false->∀ d e f g h i j k l m n o p q,c b d e f g h i j k l m n o p q->
 RR (sOp (.fieldAddr 36 (.const a) 3) 0) q fun a p=>
 c (aD b 0) d e f g h i j k l m n o a p)/\
 (∀ a:Nat->Bool,a 1=false->a 0=true->∀ b d e f g h i j k l m n o p,c a b d e f g h i j k l m n o p->
 RR (sOp (.load 34 (.const o)) 34) p fun n p=>
 c (aD a 1) b d e f g h i j k l m n o p)/\
 (∀ a:Nat->Bool,a 2=false->∀ b e f g h i j k l m n o p q,c a b e f g h i j k l m n o p q->
 c (aD a 2) b e f g h i j k l m d o p q)/\
 (∀ a:Nat->Bool,a 3=false->a 1=true->a 2=true->∀ b d e f g h i j k l m n o p,c a b d e f g h i j k l m n o p->
 RR (sOp (.indexAddr 34 (.const n) (.const m)) 0) p fun l p=>
 c (aD a 3) b d e f g h i j k l m n o p)/\
 (∀ a:Nat->Bool,a 4=false->a 3=true->∀ b d e f g h i j k l m n o p,c a b d e f g h i j k l m n o p->
 RR (sOp (.load 36 (.const l)) 36) p fun k p=>
 c (aD a 4) b d e f g h i j k l m n o p)/\
 (∀ a:Nat->Bool,a 5=false->∀ d e f g h i j k l m n o p q,c a d e f g h i j k l m n o p q->
 RR (sOp (.fieldAddr 36 (.const b) 3) 0) q fun b k=>
 c (aD a 5) d e f g h i j b l m n o p k)/\
 (∀ a:Nat->Bool,a 6=false->a 5=true->∀ b d e f g h i j k l m n o p,c a b d e f g h i j k l m n o p->
 RR (sOp (.load 34 (.const j)) 34) p fun i p=>
 c (aD a 6) b d e f g h i j k l m n o p)/\
 (∀ a:Nat->Bool,a 7=false->∀ b e f g h i j k l m n o p q,c a b e f g h i j k l m n o p q->
 c (aD a 7) b e f g h d j k l m n o p q)/\
 (∀ a:Nat->Bool,a 8=false->a 6=true->a 7=true->∀ b d e f g h i j k l m n o p,c a b d e f g h i j k l m n o p->
 RR (sOp (.indexAddr 34 (.const i) (.const h)) 0) p fun g p=>
 c (aD a 8) b d e f g h i j k l m n o p)/\
 (∀ a:Nat->Bool,a 9=false->a 8=true->∀ b d e f g h i j k l m n o p,c a b d e f g h i j k l m n o p->
 RR (sOp (.load 36 (.const g)) 36) p fun f p=>
 c (aD a 9) b d e f g h i j k l m n o p)/\
 (∀ a:Nat->Bool,a 10=false->∀ b d e f g h i j k l m n o p,c a b d e f g h i j k l m n o p->
 c (aD a 10) b d p2 f g h i j k l m n o p)/\
 (∀ a:Nat->Bool,a 11=false->a 4=true->a 9=true->a 10=true->∀ b d e f g h i j k l m n o p,c a b d e f g h i j k l m n o p->
 RR (aN (.func (.func 60) #[] #[]) [k,f,e]) p fun d p=>
 c (aD a 11) b d e f g h i j k l m n o p)/\
 (∀ a:Nat->Bool,a 12=false->a 11=true->∀ b d e f g h i j k l m n o p,c a b d e f g h i j k l m n o p->
 RR (sOp (.unOp .not 4 (.const d)) 4) p fun b p=>
 c (aD a 12) b d e f g h i j k l m n o p)/\
 True)/\
 ∀ a:Nat->Bool,a 12=true->a 11=true->a 10=true->a 9=true->a 8=true->a 7=true->a 6=true->a 5=true->a 4=true->a 3=true->a 2=true->a 1=true->a 0=true->∀ b g h i j k l m n o p q r s,c a b g h i j k l m n o p q r s->
 CondV b (
 R (.returned (.bool false)) s) (
 RR (aG .add 3 false true d (.int .i64 1)) s fun a b=>
 e a b/\f a b<f d t))) (
 R (.returned (.bool true)) u)))))
theorem qQ {p0 p1 p2:Value} {w:World} {R:Ending->World->Prop} (h:nz p0 p1 p2 w R):Calls Tryz.prog 60 #[p0,p1,p2] w R:=
  aQ (.seq none .leaf (.seq none .leaf (.seq none (.seq (some [56]) .leaf .leaf) (.seq none (.seq none .leaf (.one (.loop [60] .leaf))) .leaf)))) [p0,p1,p2] bl Tryz.func60 (by kernel_rfl) (by kernel_rfl) h


/- loop.example/prologserver/impl.isCut : function 61 -/
def vo (p0:Value) (w:World) (R:Ending->World->Prop):Prop:=
 RR (sOp (.box 36 (.const p0)) 0) w fun a b=>
 RR (sOp (.load 36 (.const a)) 36) b fun b c=>
 RR (aN (.func (.func 91) #[] #[]) [b]) c fun b c=>
 ak b true (
 RR (sOp (.fieldAddr 36 (.const a) 2) 0) c fun a c=>
 RR (sOp (.load 9 (.const a)) 9) c fun a c=>
 RR (aG .eql 9 false true a (.string ⟨#[33]⟩)) c fun a c=>
 RR (sOp (.pick (.const b) (.const a) (.const (.bool false))) 4) c fun a b=>
 R (.returned a) b) (
 RR (sOp (.pick (.const b) (.const undef) (.const (.bool false))) 4) c fun a b=>
 R (.returned a) b)
theorem xh {p0:Value} {w:World} {R:Ending->World->Prop} (h:vo p0 w R):Calls Tryz.prog 61 #[p0] w R:=
  aQ .leaf [p0] bl Tryz.func61 (by kernel_rfl) (by kernel_rfl) h


/- loop.example/prologserver/laws.eqTermS : function 62 -/
def qg (p0 p1:Value) (w:World) (R:Ending->World->Prop):Prop:=
 RR (aM .len #[34] 3 [false] [p0]) w fun a b=>
 RR (aM .len #[34] 3 [false] [p1]) b fun b c=>
 RR (aG .neq 3 false false a b) c fun a b=>
 CondV a (
 R (.returned (.bool false)) b) (
 (∃ (a:Value->World->Prop) (c:Value->World->Nat),a (.int .i64 0) b/\
 ∀ b _ _ _ d e f g h i j k l m _ _ _ _:Value,∀ n:World,a b n->
 RR (aM .len #[34] 3 [false] [p0]) n fun o p=>
 RR (aG .lss 3 false false b o) p fun o p=>
 CondV o (
 (∃ o:(Nat->Bool)->Value->Value->Value->Value->Value->Value->Value->Value->Value->Value->World->Prop,o (fun _=>false) d e f g h i j k l m { p with drawn:=p.drawn+1 }/\(
 (∀ a:Nat->Bool,a 0=false->∀ b c d e f g h i j k l,o a b c d e f g h i j k l->
 o (aD a 0) b c d e f g h i j p0 l)/\
 (∀ a:Nat->Bool,a 1=false->∀ c d e f g h i j k l m,o a c d e f g h i j k l m->
 o (aD a 1) c d e f g h i j b l m)/\
 (∀ a:Nat->Bool,a 2=false->a 0=true->a 1=true->∀ b c d e f g h i j k l,o a b c d e f g h i j k l->
 RR (sOp (.indexAddr 34 (.const k) (.const j)) 0) l fun i l=>
 o (aD a 2) b c d e f g h i j k l)/\
 (∀ a:Nat->Bool,a 3=false->a 2=true->∀ b c d e f g h i j k l,o a b c d e f g h i j k l->
 RR (sOp (.load 36 (.const i)) 36) l fun h l=>
 o (aD a 3) b c d e f g h i j k l)/\
 (∀ a:Nat->Bool,a 4=false->∀ b c d e f g h i j k l,o a b c d e f g h i j k l->
 o (aD a 4) b c d e f p1 h i j k l)/\
 (∀ a:Nat->Bool,a 5=false->∀ c d e f g h i j k l m,o a c d e f g h i j k l m->
 o (aD a 5) c d e f b h i j k l m)/\
 (∀ a:Nat->Bool,a 6=false->a 4=true->a 5=true->∀ b c d e f g h i j k l,o a b c d e f g h i j k l->
 RR (sOp (.indexAddr 34 (.const g) (.const f)) 0) l fun e l=>
 o (aD a 6) b c d e f g h i j k l)/\
 (∀ a:Nat->Bool,a 7=false->a 6=true->∀ b c d e f g h i j k l,o a b c d e f g h i j k l->
 RR (sOp (.load 36 (.const e)) 36) l fun d l=>
 o (aD a 7) b c d e f g h i j k l)/\
 (∀ a:Nat->Bool,a 8=false->a 3=true->a 7=true->∀ b c d e f g h i j k l,o a b c d e f g h i j k l->
 RR (aN (.func (.func 38) #[] #[]) [h,d]) l fun c l=>
 o (aD a 8) b c d e f g h i j k l)/\
 (∀ a:Nat->Bool,a 9=false->a 8=true->∀ b c d e f g h i j k l,o a b c d e f g h i j k l->
 RR (sOp (.unOp .not 4 (.const c)) 4) l fun b l=>
 o (aD a 9) b c d e f g h i j k l)/\
 True)/\
 ∀ d:Nat->Bool,d 9=true->d 8=true->d 7=true->d 6=true->d 5=true->d 4=true->d 3=true->d 2=true->d 1=true->d 0=true->∀ e f g h i j k l m p q,o d e f g h i j k l m p q->
 CondV e (
 R (.returned (.bool false)) q) (
 RR (aG .add 3 false true b (.int .i64 1)) q fun d e=>
 a d e/\c d e<c b n))) (
 R (.returned (.bool true)) p)))
theorem tI {p0 p1:Value} {w:World} {R:Ending->World->Prop} (h:qg p0 p1 w R):Calls Tryz.prog 62 #[p0,p1] w R:=
  aQ (.seq none .leaf (.seq none .leaf (.seq none (.seq none .leaf (.one (.loop [5] .leaf))) .leaf))) [p0,p1] bl Tryz.func62 (by kernel_rfl) (by kernel_rfl) h


/- loop.example/prologserver/impl.GoalValid : function 63 -/
def lS (p0:Value) (w:World) (R:Ending->World->Prop):Prop:=
 RR (sOp (.box 36 (.const p0)) 0) w fun a b=>
 RR (sOp (.load 36 (.const a)) 36) b fun b c=>
 RR (aN (.func (.func 76) #[] #[]) [b]) c fun b c=>
 ak b true (
 RR (sOp (.load 36 (.const a)) 36) c fun c d=>
 RR (aN (.func (.func 77) #[] #[]) [c]) d fun c d=>
 ak c false (
 RR (sOp (.load 36 (.const a)) 36) d fun d e=>
 RR (aN (.func (.func 59) #[] #[]) [d]) e fun d e=>
 ak b true (
 RR (sOp (.pick (.const c) (.const (.bool true)) (.const d)) 4) e fun c d=>
 ak c false (
 RR (sOp (.load 36 (.const a)) 36) d fun a d=>
 RR (aN (.func (.func 61) #[] #[]) [a]) d fun a d=>
 ak b true (
 RR (sOp (.pick (.const c) (.const (.bool true)) (.const a)) 4) d fun a c=>
 RR (sOp (.pick (.const b) (.const a) (.const (.bool false))) 4) c fun a b=>
 R (.returned a) b) (
 RR (sOp (.pick (.const b) (.const undef) (.const (.bool false))) 4) d fun a b=>
 R (.returned a) b)) (
 ak b true (
 RR (sOp (.pick (.const c) (.const (.bool true)) (.const undef)) 4) d fun a c=>
 RR (sOp (.pick (.const b) (.const a) (.const (.bool false))) 4) c fun a b=>
 R (.returned a) b) (
 RR (sOp (.pick (.const b) (.const undef) (.const (.bool false))) 4) d fun a b=>
 R (.returned a) b))) (
 ak undef false (
 RR (sOp (.load 36 (.const a)) 36) e fun a c=>
 RR (aN (.func (.func 61) #[] #[]) [a]) c fun a c=>
 ak b true (
 RR (sOp (.pick (.const undef) (.const (.bool true)) (.const a)) 4) c fun a c=>
 RR (sOp (.pick (.const b) (.const a) (.const (.bool false))) 4) c fun a b=>
 R (.returned a) b) (
 RR (sOp (.pick (.const b) (.const undef) (.const (.bool false))) 4) c fun a b=>
 R (.returned a) b)) (
 ak b true (
 RR (sOp (.pick (.const undef) (.const (.bool true)) (.const undef)) 4) e fun a c=>
 RR (sOp (.pick (.const b) (.const a) (.const (.bool false))) 4) c fun a b=>
 R (.returned a) b) (
 RR (sOp (.pick (.const b) (.const undef) (.const (.bool false))) 4) e fun a b=>
 R (.returned a) b)))) (
 ak b true (
 RR (sOp (.pick (.const c) (.const (.bool true)) (.const undef)) 4) d fun c d=>
 ak c false (
 RR (sOp (.load 36 (.const a)) 36) d fun a d=>
 RR (aN (.func (.func 61) #[] #[]) [a]) d fun a d=>
 ak b true (
 RR (sOp (.pick (.const c) (.const (.bool true)) (.const a)) 4) d fun a c=>
 RR (sOp (.pick (.const b) (.const a) (.const (.bool false))) 4) c fun a b=>
 R (.returned a) b) (
 RR (sOp (.pick (.const b) (.const undef) (.const (.bool false))) 4) d fun a b=>
 R (.returned a) b)) (
 ak b true (
 RR (sOp (.pick (.const c) (.const (.bool true)) (.const undef)) 4) d fun a c=>
 RR (sOp (.pick (.const b) (.const a) (.const (.bool false))) 4) c fun a b=>
 R (.returned a) b) (
 RR (sOp (.pick (.const b) (.const undef) (.const (.bool false))) 4) d fun a b=>
 R (.returned a) b))) (
 ak undef false (
 RR (sOp (.load 36 (.const a)) 36) d fun a c=>
 RR (aN (.func (.func 61) #[] #[]) [a]) c fun a c=>
 ak b true (
 RR (sOp (.pick (.const undef) (.const (.bool true)) (.const a)) 4) c fun a c=>
 RR (sOp (.pick (.const b) (.const a) (.const (.bool false))) 4) c fun a b=>
 R (.returned a) b) (
 RR (sOp (.pick (.const b) (.const undef) (.const (.bool false))) 4) c fun a b=>
 R (.returned a) b)) (
 ak b true (
 RR (sOp (.pick (.const undef) (.const (.bool true)) (.const undef)) 4) d fun a c=>
 RR (sOp (.pick (.const b) (.const a) (.const (.bool false))) 4) c fun a b=>
 R (.returned a) b) (
 RR (sOp (.pick (.const b) (.const undef) (.const (.bool false))) 4) d fun a b=>
 R (.returned a) b))))) (
 ak undef false (
 RR (sOp (.load 36 (.const a)) 36) c fun c d=>
 RR (aN (.func (.func 59) #[] #[]) [c]) d fun c d=>
 ak b true (
 RR (sOp (.pick (.const undef) (.const (.bool true)) (.const c)) 4) d fun c d=>
 ak c false (
 RR (sOp (.load 36 (.const a)) 36) d fun a d=>
 RR (aN (.func (.func 61) #[] #[]) [a]) d fun a d=>
 ak b true (
 RR (sOp (.pick (.const c) (.const (.bool true)) (.const a)) 4) d fun a c=>
 RR (sOp (.pick (.const b) (.const a) (.const (.bool false))) 4) c fun a b=>
 R (.returned a) b) (
 RR (sOp (.pick (.const b) (.const undef) (.const (.bool false))) 4) d fun a b=>
 R (.returned a) b)) (
 ak b true (
 RR (sOp (.pick (.const c) (.const (.bool true)) (.const undef)) 4) d fun a c=>
 RR (sOp (.pick (.const b) (.const a) (.const (.bool false))) 4) c fun a b=>
 R (.returned a) b) (
 RR (sOp (.pick (.const b) (.const undef) (.const (.bool false))) 4) d fun a b=>
 R (.returned a) b))) (
 ak undef false (
 RR (sOp (.load 36 (.const a)) 36) d fun a c=>
 RR (aN (.func (.func 61) #[] #[]) [a]) c fun a c=>
 ak b true (
 RR (sOp (.pick (.const undef) (.const (.bool true)) (.const a)) 4) c fun a c=>
 RR (sOp (.pick (.const b) (.const a) (.const (.bool false))) 4) c fun a b=>
 R (.returned a) b) (
 RR (sOp (.pick (.const b) (.const undef) (.const (.bool false))) 4) c fun a b=>
 R (.returned a) b)) (
 ak b true (
 RR (sOp (.pick (.const undef) (.const (.bool true)) (.const undef)) 4) d fun a c=>
 RR (sOp (.pick (.const b) (.const a) (.const (.bool false))) 4) c fun a b=>
 R (.returned a) b) (
 RR (sOp (.pick (.const b) (.const undef) (.const (.bool false))) 4) d fun a b=>
 R (.returned a) b)))) (
 ak b true (
 RR (sOp (.pick (.const undef) (.const (.bool true)) (.const undef)) 4) c fun c d=>
 ak c false (
 RR (sOp (.load 36 (.const a)) 36) d fun a d=>
 RR (aN (.func (.func 61) #[] #[]) [a]) d fun a d=>
 ak b true (
 RR (sOp (.pick (.const c) (.const (.bool true)) (.const a)) 4) d fun a c=>
 RR (sOp (.pick (.const b) (.const a) (.const (.bool false))) 4) c fun a b=>
 R (.returned a) b) (
 RR (sOp (.pick (.const b) (.const undef) (.const (.bool false))) 4) d fun a b=>
 R (.returned a) b)) (
 ak b true (
 RR (sOp (.pick (.const c) (.const (.bool true)) (.const undef)) 4) d fun a c=>
 RR (sOp (.pick (.const b) (.const a) (.const (.bool false))) 4) c fun a b=>
 R (.returned a) b) (
 RR (sOp (.pick (.const b) (.const undef) (.const (.bool false))) 4) d fun a b=>
 R (.returned a) b))) (
 ak undef false (
 RR (sOp (.load 36 (.const a)) 36) c fun a c=>
 RR (aN (.func (.func 61) #[] #[]) [a]) c fun a c=>
 ak b true (
 RR (sOp (.pick (.const undef) (.const (.bool true)) (.const a)) 4) c fun a c=>
 RR (sOp (.pick (.const b) (.const a) (.const (.bool false))) 4) c fun a b=>
 R (.returned a) b) (
 RR (sOp (.pick (.const b) (.const undef) (.const (.bool false))) 4) c fun a b=>
 R (.returned a) b)) (
 ak b true (
 RR (sOp (.pick (.const undef) (.const (.bool true)) (.const undef)) 4) c fun a c=>
 RR (sOp (.pick (.const b) (.const a) (.const (.bool false))) 4) c fun a b=>
 R (.returned a) b) (
 RR (sOp (.pick (.const b) (.const undef) (.const (.bool false))) 4) c fun a b=>
 R (.returned a) b)))))
theorem qK {p0:Value} {w:World} {R:Ending->World->Prop} (h:lS p0 w R):Calls Tryz.prog 63 #[p0] w R:=
  aQ .leaf [p0] bl Tryz.func63 (by kernel_rfl) (by kernel_rfl) h


/- loop.example/prologserver/impl.within : function 64 -/
def sv (p0 p1 p2:Value) (w:World) (R:Ending->World->Prop):Prop:=
 RR (aG .leq 3 false false p1 p0) w fun a b=>
 ak a true (
 RR (aG .leq 3 false false p0 p2) b fun b c=>
 RR (sOp (.pick (.const a) (.const b) (.const (.bool false))) 4) c fun a b=>
 R (.returned a) b) (
 RR (sOp (.pick (.const a) (.const undef) (.const (.bool false))) 4) b fun a b=>
 R (.returned a) b)
theorem wh {p0 p1 p2:Value} {w:World} {R:Ending->World->Prop} (h:sv p0 p1 p2 w R):Calls Tryz.prog 64 #[p0,p1,p2] w R:=
  aQ .leaf [p0,p1,p2] bl Tryz.func64 (by kernel_rfl) (by kernel_rfl) h


/- slices.ContainsFunc[[]loop.example/prologserver/impl.Proof,loop.example/prologserver/impl.Proof] : function 65 -/
def fI (p0 p1:Value) (w:World) (R:Ending->World->Prop):Prop:=
 RR (aN (.func (.func 92) #[] #[]) [p0,p1]) w fun a b=>
 RR (aG .geq 3 false true a (.int .i64 0)) b fun a b=>
 R (.returned a) b
theorem iD {p0 p1:Value} {w:World} {R:Ending->World->Prop} (h:fI p0 p1 w R):Calls Tryz.prog 65 #[p0,p1] w R:=
  aQ .leaf [p0,p1] bl Tryz.func65 (by kernel_rfl) (by kernel_rfl) h


/- loop.example/prologserver/impl.proofScan$1 : function 66 -/
def jE (p0 p1 p2:Value) (w:World) (R:Ending->World->Prop):Prop:=
 RR (sOp (.box 39 (.const p0)) 0) w fun a b=>
 RR (sOp (.load 39 (.const a)) 39) b fun a b=>
 RR (sOp (.load 3 (.const p1)) 3) b fun b c=>
 RR (aG .add 3 false true b (.int .i64 1)) c fun b c=>
 RR (sOp (.load 70 (.const p2)) 70) c fun c d=>
 RR (aN (.func (.func 41) #[] #[]) [a,b,c]) d fun a b=>
 RR (sOp (.unOp .not 4 (.const a)) 4) b fun a b=>
 R (.returned a) b
theorem m1 {p0 p1 p2:Value} {w:World} {R:Ending->World->Prop} (h:jE p0 p1 p2 w R):Calls Tryz.prog 66 #[p0,p1,p2] w R:=
  aQ .leaf [p0,p1,p2] bl Tryz.func66 (by kernel_rfl) (by kernel_rfl) h


/- slices.IndexFunc[[]loop.example/prologserver/impl.Clause,loop.example/prologserver/impl.Clause] : function 75 -/
def ge (p0 p1:Value) (w:World) (R:Ending->World->Prop):Prop:=
 RR (aM .len #[32] 3 [false] [p0]) w fun a b=>
 (∃ (c:Value->World->Prop) (d:Value->World->Nat),c (.int .i64 0) b/\
 ∀ b _ _ _ _ _ _ _ _ _ _ _ _:Value,∀ e:World,c b e->
 RR (aG .lss 3 false false b a) e fun a f=>
 CondV a (
 RR (sOp (.indexAddr 32 (.const p0) (.const b)) 0) f fun a f=>
 RR (sOp (.load 56 (.const a)) 56) f fun a f=>
 RR (aN p1 [a]) f fun a f=>
 CondV a (
 R (.returned b) f) (
 RR (aG .add 3 false true b (.int .i64 1)) f fun a f=>
 c a f/\d a f<d b e)) (
 R (.returned (.int .i64 (-1))) f))
theorem je {p0 p1:Value} {w:World} {R:Ending->World->Prop} (h:ge p0 p1 w R):Calls Tryz.prog 75 #[p0,p1] w R:=
  aQ (.seq none .leaf (.seq none (.seq none .leaf (.one (.loop [8] .leaf))) .leaf)) [p0,p1] bl Tryz.func75 (by kernel_rfl) (by kernel_rfl) h


/- loop.example/prologserver/impl.TermValid : function 76 -/
def mC (p0:Value) (w:World) (R:Ending->World->Prop):Prop:=
 RR (sOp (.box 36 (.const p0)) 0) w fun a b=>
 RR (sOp (.alloc 3) 0) b fun b c=>
 RR (sOp (.store 3 (.const b) (.const (.int .i64 0))) 0) c fun _ c=>
 RR (sOp (.load 36 (.const a)) 36) c fun a c=>
 RR (aN (.func (.func 108) #[] #[]) [a,(.int .i64 1),b]) c fun a b=>
 R (.returned a) b
theorem pt {p0:Value} {w:World} {R:Ending->World->Prop} (h:mC p0 w R):Calls Tryz.prog 76 #[p0] w R:=
  aQ .leaf [p0] bl Tryz.func76 (by kernel_rfl) (by kernel_rfl) h


/- loop.example/prologserver/impl.isPlain : function 77 -/
def qd (p0:Value) (w:World) (R:Ending->World->Prop):Prop:=
 RR (sOp (.box 36 (.const p0)) 0) w fun a b=>
 RR (sOp (.fieldAddr 36 (.const a) 0) 0) b fun b c=>
 RR (sOp (.load 3 (.const b)) 3) c fun b c=>
 RR (aG .eql 3 false true b (.int .i64 3)) c fun b c=>
 ((fun d:VW=>ak b true (
 RR (sOp (.fieldAddr 36 (.const a) 2) 0) c fun a c=>
 RR (sOp (.load 9 (.const a)) 9) c fun a c=>
 RR (aN (.func (.func 109) #[] #[]) [a]) c fun a c=>
 RR (sOp (.pick (.const b) (.const a) (.const (.bool false))) 4) c fun a b=>d a b) (
 RR (sOp (.pick (.const b) (.const undef) (.const (.bool false))) 4) c fun a b=>d a b)) fun b c=>
 ((fun d:VW=>ak b true (
 RR (sOp (.fieldAddr 36 (.const a) 2) 0) c fun a c=>
 RR (sOp (.load 9 (.const a)) 9) c fun a c=>
 RR (aN (.func (.func 110) #[] #[]) [a]) c fun a c=>
 RR (sOp (.unOp .not 4 (.const a)) 4) c fun a c=>
 RR (sOp (.pick (.const b) (.const a) (.const (.bool false))) 4) c fun a b=>d a b) (
 RR (sOp (.pick (.const b) (.const undef) (.const (.bool false))) 4) c fun a b=>d a b)) fun b c=>
 ak b true (
 RR (sOp (.load 36 (.const a)) 36) c fun a c=>
 RR (aN (.func (.func 59) #[] #[]) [a]) c fun a c=>
 RR (sOp (.unOp .not 4 (.const a)) 4) c fun a c=>
 RR (sOp (.pick (.const b) (.const a) (.const (.bool false))) 4) c fun a b=>
 R (.returned a) b) (
 RR (sOp (.pick (.const b) (.const undef) (.const (.bool false))) 4) c fun a b=>
 R (.returned a) b)))
theorem tz {p0:Value} {w:World} {R:Ending->World->Prop} (h:qd p0 w R):Calls Tryz.prog 77 #[p0] w R:=
  aQ .leaf [p0] bl Tryz.func77 (by kernel_rfl) (by kernel_rfl) h


/- loop.example/prologserver/impl.goalsValid : function 78 -/
def la (p0:Value) (w:World) (R:Ending->World->Prop):Prop:=
 RR (aM .len #[34] 3 [false] [p0]) w fun a b=>
 RR (aG .leq 3 false true a (.int .i64 6)) b fun a b=>
 ak a true (
 RR (aN (.func (.func 111) #[] #[]) [p0,(.func (.func 112) #[] #[])]) b fun b c=>
 RR (sOp (.unOp .not 4 (.const b)) 4) c fun b c=>
 RR (sOp (.pick (.const a) (.const b) (.const (.bool false))) 4) c fun a b=>
 R (.returned a) b) (
 RR (sOp (.pick (.const a) (.const undef) (.const (.bool false))) 4) b fun a b=>
 R (.returned a) b)
theorem oh {p0:Value} {w:World} {R:Ending->World->Prop} (h:la p0 w R):Calls Tryz.prog 78 #[p0] w R:=
  aQ .leaf [p0] bl Tryz.func78 (by kernel_rfl) (by kernel_rfl) h


/- loop.example/prologserver/spec.GoalValid : function 79 -/
def mA (p0:Value) (w:World) (R:Ending->World->Prop):Prop:=
 RR (sOp (.box 36 (.const p0)) 0) w fun a b=>
 RR (sOp (.load 36 (.const a)) 36) b fun b c=>
 RR (aN (.func (.func 80) #[] #[]) [b]) c fun b c=>
 ak b true (
 RR (sOp (.load 36 (.const a)) 36) c fun a c=>
 RR (aN (.func (.func 113) #[] #[]) [a]) c fun a c=>
 RR (sOp (.pick (.const b) (.const a) (.const (.bool false))) 4) c fun a b=>
 R (.returned a) b) (
 RR (sOp (.pick (.const b) (.const undef) (.const (.bool false))) 4) c fun a b=>
 R (.returned a) b)
theorem o5 {p0:Value} {w:World} {R:Ending->World->Prop} (h:mA p0 w R):Calls Tryz.prog 79 #[p0] w R:=
  aQ .leaf [p0] bl Tryz.func79 (by kernel_rfl) (by kernel_rfl) h


/- loop.example/prologserver/spec.TermValid : function 80 -/
def mr (p0:Value) (w:World) (R:Ending->World->Prop):Prop:=
 RR (sOp (.box 36 (.const p0)) 0) w fun a b=>
 RR (sOp (.load 36 (.const a)) 36) b fun b c=>
 RR (aN (.func (.func 114) #[] #[]) [b,(.int .i64 30)]) c fun b c=>
 ak b true (
 RR (sOp (.load 36 (.const a)) 36) c fun a c=>
 RR (aN (.func (.func 115) #[] #[]) [a,(.int .i64 120)]) c fun a c=>
 RR (aG .leq 3 false true a (.int .i64 120)) c fun a c=>
 RR (sOp (.pick (.const b) (.const a) (.const (.bool false))) 4) c fun a b=>
 R (.returned a) b) (
 RR (sOp (.pick (.const b) (.const undef) (.const (.bool false))) 4) c fun a b=>
 R (.returned a) b)
theorem qw {p0:Value} {w:World} {R:Ending->World->Prop} (h:mr p0 w R):Calls Tryz.prog 80 #[p0] w R:=
  aQ .leaf [p0] bl Tryz.func80 (by kernel_rfl) (by kernel_rfl) h


/- loop.example/prologserver/spec.l4Plain : function 81 -/
def oT (p0:Value) (w:World) (R:Ending->World->Prop):Prop:=
 RR (sOp (.box 36 (.const p0)) 0) w fun a b=>
 RR (sOp (.fieldAddr 36 (.const a) 0) 0) b fun b c=>
 RR (sOp (.load 3 (.const b)) 3) c fun b c=>
 RR (aG .eql 3 false true b (.int .i64 3)) c fun b c=>
 ((fun d:VW=>ak b true (
 RR (sOp (.fieldAddr 36 (.const a) 2) 0) c fun a c=>
 RR (sOp (.load 9 (.const a)) 9) c fun a c=>
 RR (aN (.func (.func 116) #[] #[]) [a]) c fun a c=>
 RR (sOp (.pick (.const b) (.const a) (.const (.bool false))) 4) c fun a b=>d a b) (
 RR (sOp (.pick (.const b) (.const undef) (.const (.bool false))) 4) c fun a b=>d a b)) fun b c=>
 ((fun d:VW=>ak b true (
 RR (sOp (.fieldAddr 36 (.const a) 2) 0) c fun c e=>
 RR (sOp (.load 9 (.const c)) 9) e fun c e=>
 RR (sOp (.fieldAddr 36 (.const a) 3) 0) e fun a e=>
 RR (sOp (.load 34 (.const a)) 34) e fun a e=>
 RR (aM .len #[34] 3 [false] [a]) e fun a e=>
 RR (aN (.func (.func 82) #[] #[]) [c,a]) e fun a c=>
 RR (sOp (.unOp .not 4 (.const a)) 4) c fun a c=>
 RR (sOp (.pick (.const b) (.const a) (.const (.bool false))) 4) c fun a b=>d a b) (
 RR (sOp (.pick (.const b) (.const undef) (.const (.bool false))) 4) c fun a b=>d a b)) fun b c=>
 ak b true (
 RR (sOp (.fieldAddr 36 (.const a) 2) 0) c fun a c=>
 RR (sOp (.load 9 (.const a)) 9) c fun a c=>
 RR (aN (.func (.func 117) #[] #[]) [a]) c fun a c=>
 RR (aG .eql 3 false true a (.int .i64 0)) c fun a c=>
 RR (sOp (.pick (.const b) (.const a) (.const (.bool false))) 4) c fun a b=>
 R (.returned a) b) (
 RR (sOp (.pick (.const b) (.const undef) (.const (.bool false))) 4) c fun a b=>
 R (.returned a) b)))
theorem tF {p0:Value} {w:World} {R:Ending->World->Prop} (h:oT p0 w R):Calls Tryz.prog 81 #[p0] w R:=
  aQ .leaf [p0] bl Tryz.func81 (by kernel_rfl) (by kernel_rfl) h


/- loop.example/prologserver/spec.IsBuiltin : function 82 -/
def lM (p0 p1:Value) (w:World) (R:Ending->World->Prop):Prop:=
 (∃ a:Value->World->Prop,(
 RR (aG .eql 9 false true p0 (.string ⟨#[61]⟩)) w fun b c=>
 CondV b (
 a b c) (
 RR (aG .eql 9 false true p0 (.string ⟨#[92,61]⟩)) c fun b c=>
 CondV b (
 a b c) (
 RR (aG .eql 9 false true p0 (.string ⟨#[61,61]⟩)) c fun b c=>
 CondV b (
 a b c) (
 RR (aG .eql 9 false true p0 (.string ⟨#[60]⟩)) c fun b c=>
 CondV b (
 a b c) (
 RR (aG .eql 9 false true p0 (.string ⟨#[62]⟩)) c fun b c=>
 CondV b (
 a b c) (
 RR (aG .eql 9 false true p0 (.string ⟨#[61,60]⟩)) c fun b c=>
 CondV b (
 a b c) (
 RR (aG .eql 9 false true p0 (.string ⟨#[62,61]⟩)) c fun b c=>
 CondV b (
 a b c) (
 RR (aG .eql 9 false true p0 (.string ⟨#[61,58,61]⟩)) c fun b c=>
 CondV b (
 a b c) (
 RR (aG .eql 9 false true p0 (.string ⟨#[105,115]⟩)) c fun b c=>
 a b c)))))))))/\
 ∀ _ _ _ _ _ _ _ _ b _:Value,∀ c:World,a b c->
 CondV b (
 RR (aG .eql 3 false true p1 (.int .i64 2)) c fun a b=>
 R (.returned a) b) (
 (∃ a:Value->World->Prop,(
 RR (aG .eql 9 false true p0 (.string ⟨#[116,114,117,101]⟩)) c fun b c=>
 CondV b (
 a b c) (
 RR (aG .eql 9 false true p0 (.string ⟨#[102,97,105,108]⟩)) c fun b c=>
 a b c))/\
 ∀ _ b _:Value,∀ c:World,a b c->
 CondV b (
 RR (aG .eql 3 false true p1 (.int .i64 0)) c fun a b=>
 R (.returned a) b) (
 (∃ a:Value->World->Prop,(
 RR (aG .eql 9 false true p0 (.string ⟨#[118,97,114]⟩)) c fun b c=>
 CondV b (
 a b c) (
 RR (aG .eql 9 false true p0 (.string ⟨#[110,111,110,118,97,114]⟩)) c fun b c=>
 CondV b (
 a b c) (
 RR (aG .eql 9 false true p0 (.string ⟨#[97,116,111,109]⟩)) c fun b c=>
 CondV b (
 a b c) (
 RR (aG .eql 9 false true p0 (.string ⟨#[105,110,116]⟩)) c fun b c=>
 a b c))))/\
 ∀ _ _ _ b _:Value,∀ c:World,a b c->
 CondV b (
 RR (aG .eql 3 false true p1 (.int .i64 1)) c fun a b=>
 R (.returned a) b) (
 RR (aG .eql 9 false true p0 (.string ⟨#[97,114,103]⟩)) c fun a b=>
 CondV a (
 RR (aG .eql 3 false true p1 (.int .i64 3)) b fun a b=>
 R (.returned a) b) (
 R (.returned (.bool false)) b)))))))
theorem qD {p0 p1:Value} {w:World} {R:Ending->World->Prop} (h:lM p0 p1 w R):Calls Tryz.prog 82 #[p0,p1] w R:=
  aQ (.seq none .leaf (.seq none (.seq none .leaf (.one (.seq (some [6]) .leaf (.two .leaf (.seq (some [18]) .leaf (.two .leaf (.seq (some [23]) .leaf .leaf))))))) .leaf)) [p0,p1] bl Tryz.func82 (by kernel_rfl) (by kernel_rfl) h


/- loop.example/prologserver/spec.l13Built : function 83 -/
def nv (p0:Value) (w:World) (R:Ending->World->Prop):Prop:=
 RR (sOp (.box 36 (.const p0)) 0) w fun a b=>
 RR (sOp (.load 36 (.const a)) 36) b fun a b=>
 RR (aN (.func (.func 118) #[] #[]) [a]) b fun a b=>
 RR (sOp (.extract (.const a) 0) 88) b fun b c=>
 RR (sOp (.extract (.const a) 1) 3) c fun a c=>
 RR (aG .eql 3 false true a (.int .i64 0)) c fun a c=>
 ak a true (
 RR (aM .len #[88] 3 [false] [b]) c fun b c=>
 RR (aG .eql 3 false true b (.int .i64 0)) c fun b c=>
 RR (sOp (.pick (.const a) (.const b) (.const (.bool false))) 4) c fun a b=>
 R (.returned a) b) (
 RR (sOp (.pick (.const a) (.const undef) (.const (.bool false))) 4) c fun a b=>
 R (.returned a) b)
theorem qX {p0:Value} {w:World} {R:Ending->World->Prop} (h:nv p0 w R):Calls Tryz.prog 83 #[p0] w R:=
  aQ .leaf [p0] bl Tryz.func83 (by kernel_rfl) (by kernel_rfl) h


/- loop.example/prologserver/spec.l3Match : function 84 -/
def p5 (p0 p1 p2:Value) (w:World) (R:Ending->World->Prop):Prop:=
 RR (sOp (.box 36 (.const p0)) 0) w fun a b=>
 RR (sOp (.box 36 (.const p1)) 0) b fun b c=>
 RR (sOp (.fieldAddr 36 (.const a) 0) 0) c fun c d=>
 RR (sOp (.load 3 (.const c)) 3) d fun c d=>
 RR (aG .eql 3 false true c (.int .i64 1)) d fun c d=>
 CondV c (
 RR (sOp (.fieldAddr 36 (.const a) 1) 0) d fun c d=>
 RR (sOp (.load 3 (.const c)) 3) d fun c d=>
 RR (sOp (.indexAddr 34 (.const p2) (.const c)) 0) d fun c d=>
 RR (sOp (.fieldAddr 36 (.const c) 0) 0) d fun c d=>
 RR (sOp (.load 3 (.const c)) 3) d fun c d=>
 RR (aG .neq 3 false true c (.int .i64 0)) d fun c d=>
 CondV c (
 (∃ c:(Nat->Bool)->Value->Value->Value->Value->Value->Value->Value->Value->World->Prop,c (fun _=>false) (.bool false) undef undef undef undef undef undef undef { d with drawn:=d.drawn+1 }/\(
 (∀ a:Nat->Bool,a 0=false->∀ b d e f g h i j k,c a b d e f g h i j k->
 c (aD a 0) b d e f g h i p2 k)/\
 (∀ b:Nat->Bool,b 1=false->∀ d e f g h i j k l,c b d e f g h i j k l->
 RR (sOp (.fieldAddr 36 (.const a) 1) 0) l fun a j=>
 c (aD b 1) d e f g h i a k j)/\
 (∀ a:Nat->Bool,a 2=false->a 1=true->∀ b d e f g h i j k,c a b d e f g h i j k->
 RR (sOp (.load 3 (.const i)) 3) k fun h k=>
 c (aD a 2) b d e f g h i j k)/\
 (∀ a:Nat->Bool,a 3=false->a 0=true->a 2=true->∀ b d e f g h i j k,c a b d e f g h i j k->
 RR (sOp (.indexAddr 34 (.const j) (.const h)) 0) k fun g k=>
 c (aD a 3) b d e f g h i j k)/\
 (∀ a:Nat->Bool,a 4=false->a 3=true->∀ b d e f g h i j k,c a b d e f g h i j k->
 RR (sOp (.load 36 (.const g)) 36) k fun f k=>
 c (aD a 4) b d e f g h i j k)/\
 (∀ a:Nat->Bool,a 5=false->∀ d e f g h i j k l,c a d e f g h i j k l->
 RR (sOp (.load 36 (.const b)) 36) l fun b f=>
 c (aD a 5) d e b g h i j k f)/\
 (∀ a:Nat->Bool,a 6=false->a 4=true->a 5=true->∀ b d e f g h i j k,c a b d e f g h i j k->
 RR (aN (.func (.func 119) #[] #[]) [f,e]) k fun d k=>
 c (aD a 6) b d e f g h i j k)/\
 (∀ a:Nat->Bool,a 7=false->a 6=true->a 6=true->a 0=true->a 1=true->a 2=true->a 3=true->a 4=true->a 5=true->a 6=true->∀ b d e f g h i j k,c a b d e f g h i j k->
 c (aD a 7) d d e f g h i j k)/\
 True)/\
 ∀ a:Nat->Bool,a 7=true->a 6=true->a 5=true->a 4=true->a 3=true->a 2=true->a 1=true->a 0=true->∀ b d e f g h i j k,c a b d e f g h i j k->
 R (.returned b) k)) (
 RR (sOp (.fieldAddr 36 (.const a) 1) 0) d fun a c=>
 RR (sOp (.load 3 (.const a)) 3) c fun a c=>
 RR (sOp (.load 36 (.const b)) 36) c fun b c=>
 RR (sOp (.indexAddr 34 (.const p2) (.const a)) 0) c fun a c=>
 RR (sOp (.store 36 (.const a) (.const b)) 0) c fun _ a=>
 R (.returned (.bool true)) a)) (
 (∃ c:Value->World->Prop,(
 RR (sOp (.fieldAddr 36 (.const a) 0) 0) d fun d e=>
 RR (sOp (.load 3 (.const d)) 3) e fun d e=>
 RR (sOp (.fieldAddr 36 (.const b) 0) 0) e fun e f=>
 RR (sOp (.load 3 (.const e)) 3) f fun e f=>
 RR (aG .neq 3 false false d e) f fun d e=>
 ((fun c:VW=>ak d false (
 RR (sOp (.fieldAddr 36 (.const a) 1) 0) e fun a e=>
 RR (sOp (.load 3 (.const a)) 3) e fun a e=>
 RR (sOp (.fieldAddr 36 (.const b) 1) 0) e fun b e=>
 RR (sOp (.load 3 (.const b)) 3) e fun b e=>
 RR (aG .neq 3 false false a b) e fun a b=>
 RR (sOp (.pick (.const d) (.const (.bool true)) (.const a)) 4) b fun a b=>c a b) (
 RR (sOp (.pick (.const d) (.const (.bool true)) (.const undef)) 4) e fun a b=>c a b)) fun d e=>
 ((fun c:VW=>ak d false (
 RR (sOp (.fieldAddr 36 (.const a) 2) 0) e fun a e=>
 RR (sOp (.load 9 (.const a)) 9) e fun a e=>
 RR (sOp (.fieldAddr 36 (.const b) 2) 0) e fun b e=>
 RR (sOp (.load 9 (.const b)) 9) e fun b e=>
 RR (aG .neq 9 false false a b) e fun a b=>
 RR (sOp (.pick (.const d) (.const (.bool true)) (.const a)) 4) b fun a b=>c a b) (
 RR (sOp (.pick (.const d) (.const (.bool true)) (.const undef)) 4) e fun a b=>c a b)) fun d e=>
 ak d false (
 RR (sOp (.fieldAddr 36 (.const a) 3) 0) e fun a e=>
 RR (sOp (.load 34 (.const a)) 34) e fun a e=>
 RR (aM .len #[34] 3 [false] [a]) e fun a e=>
 RR (sOp (.fieldAddr 36 (.const b) 3) 0) e fun b e=>
 RR (sOp (.load 34 (.const b)) 34) e fun b e=>
 RR (aM .len #[34] 3 [false] [b]) e fun b e=>
 RR (aG .neq 3 false false a b) e fun a b=>
 RR (sOp (.pick (.const d) (.const (.bool true)) (.const a)) 4) b fun a b=>
 c a b) (
 RR (sOp (.pick (.const d) (.const (.bool true)) (.const undef)) 4) e fun a b=>
 c a b))))/\
 ∀ d _ _ _ _ _ _ _ _ _ _ _ _ _ _ _ _ _ _ _ _ _ _ _ _ _ _ _:Value,∀ e:World,c d e->
 CondV d (
 R (.returned (.bool false)) e) (
 (∃ (c:Value->World->Prop) (d:Value->World->Nat),c (.int .i64 0) e/\
 ∀ e _ _ _ f g h i j k l m n o p q r _ _ _ _ _:Value,∀ s:World,c e s->
 RR (sOp (.fieldAddr 36 (.const a) 3) 0) s fun t u=>
 RR (sOp (.load 34 (.const t)) 34) u fun t u=>
 RR (aM .len #[34] 3 [false] [t]) u fun t u=>
 RR (aG .lss 3 false false e t) u fun t u=>
 CondV t (
 (∃ t:(Nat->Bool)->Value->Value->Value->Value->Value->Value->Value->Value->Value->Value->Value->Value->Value->World->Prop,t (fun _=>false) f g h i j k l m n o p q r { u with drawn:=u.drawn+1 }/\(
 (∀ b:Nat->Bool,b 0=false->∀ c d e f g h i j k l m n o p,t b c d e f g h i j k l m n o p->
 RR (sOp (.fieldAddr 36 (.const a) 3) 0) p fun a o=>
 t (aD b 0) c d e f g h i j k l m n a o)/\
 (∀ a:Nat->Bool,a 1=false->a 0=true->∀ b c d e f g h i j k l m n o,t a b c d e f g h i j k l m n o->
 RR (sOp (.load 34 (.const n)) 34) o fun m o=>
 t (aD a 1) b c d e f g h i j k l m n o)/\
 (∀ a:Nat->Bool,a 2=false->∀ b c d f g h i j k l m n o p,t a b c d f g h i j k l m n o p->
 t (aD a 2) b c d f g h i j k l e n o p)/\
 (∀ a:Nat->Bool,a 3=false->a 1=true->a 2=true->∀ b c d e f g h i j k l m n o,t a b c d e f g h i j k l m n o->
 RR (sOp (.indexAddr 34 (.const m) (.const l)) 0) o fun k o=>
 t (aD a 3) b c d e f g h i j k l m n o)/\
 (∀ a:Nat->Bool,a 4=false->a 3=true->∀ b c d e f g h i j k l m n o,t a b c d e f g h i j k l m n o->
 RR (sOp (.load 36 (.const k)) 36) o fun j o=>
 t (aD a 4) b c d e f g h i j k l m n o)/\
 (∀ a:Nat->Bool,a 5=false->∀ c d e f g h i j k l m n o p,t a c d e f g h i j k l m n o p->
 RR (sOp (.fieldAddr 36 (.const b) 3) 0) p fun b j=>
 t (aD a 5) c d e f g h i b k l m n o j)/\
 (∀ a:Nat->Bool,a 6=false->a 5=true->∀ b c d e f g h i j k l m n o,t a b c d e f g h i j k l m n o->
 RR (sOp (.load 34 (.const i)) 34) o fun h o=>
 t (aD a 6) b c d e f g h i j k l m n o)/\
 (∀ a:Nat->Bool,a 7=false->∀ b c d f g h i j k l m n o p,t a b c d f g h i j k l m n o p->
 t (aD a 7) b c d f g e i j k l m n o p)/\
 (∀ a:Nat->Bool,a 8=false->a 6=true->a 7=true->∀ b c d e f g h i j k l m n o,t a b c d e f g h i j k l m n o->
 RR (sOp (.indexAddr 34 (.const h) (.const g)) 0) o fun f o=>
 t (aD a 8) b c d e f g h i j k l m n o)/\
 (∀ a:Nat->Bool,a 9=false->a 8=true->∀ b c d e f g h i j k l m n o,t a b c d e f g h i j k l m n o->
 RR (sOp (.load 36 (.const f)) 36) o fun e o=>
 t (aD a 9) b c d e f g h i j k l m n o)/\
 (∀ a:Nat->Bool,a 10=false->∀ b c d e f g h i j k l m n o,t a b c d e f g h i j k l m n o->
 t (aD a 10) b c p2 e f g h i j k l m n o)/\
 (∀ a:Nat->Bool,a 11=false->a 4=true->a 9=true->a 10=true->∀ b c d e f g h i j k l m n o,t a b c d e f g h i j k l m n o->
 RR (aN (.func (.func 84) #[] #[]) [j,e,d]) o fun c o=>
 t (aD a 11) b c d e f g h i j k l m n o)/\
 (∀ a:Nat->Bool,a 12=false->a 11=true->∀ b c d e f g h i j k l m n o,t a b c d e f g h i j k l m n o->
 RR (sOp (.unOp .not 4 (.const c)) 4) o fun b o=>
 t (aD a 12) b c d e f g h i j k l m n o)/\
 True)/\
 ∀ a:Nat->Bool,a 12=true->a 11=true->a 10=true->a 9=true->a 8=true->a 7=true->a 6=true->a 5=true->a 4=true->a 3=true->a 2=true->a 1=true->a 0=true->∀ b f g h i j k l m n o p q r,t a b f g h i j k l m n o p q r->
 CondV b (
 R (.returned (.bool false)) r) (
 RR (aG .add 3 false true e (.int .i64 1)) r fun a b=>
 c a b/\d a b<d e s))) (
 R (.returned (.bool true)) u)))))
theorem tg {p0 p1 p2:Value} {w:World} {R:Ending->World->Prop} (h:p5 p0 p1 p2 w R):Calls Tryz.prog 84 #[p0,p1,p2] w R:=
  aQ (.seq none .leaf (.seq none .leaf (.seq none (.seq (some [57]) .leaf .leaf) (.seq none (.seq none .leaf (.one (.loop [7] .leaf))) .leaf)))) [p0,p1,p2] bl Tryz.func84 (by kernel_rfl) (by kernel_rfl) h


/- loop.example/prologserver/spec.l4Cut : function 85 -/
def uT (p0:Value) (w:World) (R:Ending->World->Prop):Prop:=
 RR (sOp (.box 36 (.const p0)) 0) w fun a b=>
 RR (sOp (.fieldAddr 36 (.const a) 0) 0) b fun b c=>
 RR (sOp (.load 3 (.const b)) 3) c fun b c=>
 RR (aG .eql 3 false true b (.int .i64 3)) c fun b c=>
 ((fun d:VW=>ak b true (
 RR (sOp (.fieldAddr 36 (.const a) 2) 0) c fun a c=>
 RR (sOp (.load 9 (.const a)) 9) c fun a c=>
 RR (aG .eql 9 false true a (.string ⟨#[33]⟩)) c fun a c=>
 RR (sOp (.pick (.const b) (.const a) (.const (.bool false))) 4) c fun a b=>d a b) (
 RR (sOp (.pick (.const b) (.const undef) (.const (.bool false))) 4) c fun a b=>d a b)) fun b c=>
 ak b true (
 RR (sOp (.fieldAddr 36 (.const a) 3) 0) c fun a c=>
 RR (sOp (.load 34 (.const a)) 34) c fun a c=>
 RR (aM .len #[34] 3 [false] [a]) c fun a c=>
 RR (aG .eql 3 false true a (.int .i64 0)) c fun a c=>
 RR (sOp (.pick (.const b) (.const a) (.const (.bool false))) 4) c fun a b=>
 R (.returned a) b) (
 RR (sOp (.pick (.const b) (.const undef) (.const (.bool false))) 4) c fun a b=>
 R (.returned a) b))
theorem ww {p0:Value} {w:World} {R:Ending->World->Prop} (h:uT p0 w R):Calls Tryz.prog 85 #[p0] w R:=
  aQ .leaf [p0] bl Tryz.func85 (by kernel_rfl) (by kernel_rfl) h


/- loop.example/prologserver/impl.newStore : function 86 -/
def nQ (w:World) (R:Ending->World->Prop):Prop:=
 RR (sOp (.makeMap 92 none) 92) w fun a b=>
 RR (dn 155 [(0,a)]) b fun a b=>
 RR (sOp (.box 155 (.const a)) 113) b fun a b=>
 R (.returned a) b
theorem ru {w:World} {R:Ending->World->Prop} (h:nQ w R):Calls Tryz.prog 86 #[] w R:=
  aQ .leaf [] bl Tryz.func86 (by kernel_rfl) (by kernel_rfl) h


/- (*loop.example/prologserver/impl.store).call : function 87 -/
def lf (p0 p1:Value) (w:World) (R:Ending->World->Prop):Prop:=
 RR (sOp (.box 36 (.const p1)) 0) w fun a b=>
 RR (sOp (.load 36 (.const a)) 36) b fun b c=>
 RR (aN (.func (.func 120) #[] #[]) [b]) c fun b c=>
 CondV b (
 RR (sOp (.load 36 (.const a)) 36) c fun a b=>
 RR (aN (.func (.func 121) #[] #[]) [a]) b fun a b=>
 R (.returned a) b) (
 RR (sOp (.fieldAddr 36 (.const a) 3) 0) c fun b c=>
 RR (sOp (.load 34 (.const b)) 34) c fun b c=>
 RR (sOp (.fieldAddr 36 (.const a) 2) 0) c fun a c=>
 RR (sOp (.load 9 (.const a)) 9) c fun a c=>
 RR (aG .eql 9 false true a (.string ⟨#[116,114,117,101]⟩)) c fun c d=>
 CondV c (
 R (.returned (.int .i64 0)) d) (
 RR (aG .eql 9 false true a (.string ⟨#[102,97,105,108]⟩)) d fun c d=>
 CondV c (
 R (.returned (.int .i64 1)) d) (
 RR (aG .eql 9 false true a (.string ⟨#[61]⟩)) d fun c d=>
 CondV c (
 (∃ a:(Nat->Bool)->Value->Value->Value->Value->Value->Value->Value->Value->Value->Value->World->Prop,a (fun _=>false) (.int .i64 0) undef undef undef undef undef undef undef undef undef { d with drawn:=d.drawn+1 }/\(
 (∀ b:Nat->Bool,b 0=false->∀ c d e f g h i j k l m,a b c d e f g h i j k l m->
 a (aD b 0) c d e f g h i j k p0 m)/\
 (∀ c:Nat->Bool,c 1=false->∀ d e f g h i j k l m n,a c d e f g h i j k l m n->
 a (aD c 1) d e f g h i j k b m n)/\
 (∀ b:Nat->Bool,b 2=false->b 1=true->∀ c d e f g h i j k l m,a b c d e f g h i j k l m->
 RR (sOp (.indexAddr 34 (.const k) (.const (.int .i64 0))) 0) m fun j m=>
 a (aD b 2) c d e f g h i j k l m)/\
 (∀ b:Nat->Bool,b 3=false->b 2=true->∀ c d e f g h i j k l m,a b c d e f g h i j k l m->
 RR (sOp (.load 36 (.const j)) 36) m fun i m=>
 a (aD b 3) c d e f g h i j k l m)/\
 (∀ c:Nat->Bool,c 4=false->∀ d e f g h i j k l m n,a c d e f g h i j k l m n->
 a (aD c 4) d e f g h b j k l m n)/\
 (∀ b:Nat->Bool,b 5=false->b 4=true->∀ c d e f g h i j k l m,a b c d e f g h i j k l m->
 RR (sOp (.indexAddr 34 (.const h) (.const (.int .i64 1))) 0) m fun g m=>
 a (aD b 5) c d e f g h i j k l m)/\
 (∀ b:Nat->Bool,b 6=false->b 5=true->∀ c d e f g h i j k l m,a b c d e f g h i j k l m->
 RR (sOp (.load 36 (.const g)) 36) m fun f m=>
 a (aD b 6) c d e f g h i j k l m)/\
 (∀ b:Nat->Bool,b 7=false->b 0=true->b 3=true->b 6=true->∀ c d e f g h i j k l m,a b c d e f g h i j k l m->
 RR (aN (.func (.func 123) #[] #[]) [l,i,f]) m fun e m=>
 a (aD b 7) c d e f g h i j k l m)/\
 (∀ b:Nat->Bool,b 8=false->b 7=true->b 7=true->∀ c d e f g h i j k l m,a b c d e f g h i j k l m->
 RR (aN (.func (.func 122) #[] #[]) [e]) m fun d m=>
 a (aD b 8) c d e f g h i j k l m)/\
 (∀ b:Nat->Bool,b 9=false->b 8=true->b 8=true->b 0=true->b 1=true->b 2=true->b 3=true->b 4=true->b 5=true->b 6=true->b 7=true->b 8=true->∀ c d e f g h i j k l m,a b c d e f g h i j k l m->
 a (aD b 9) d d e f g h i j k l m)/\
 True)/\
 ∀ b:Nat->Bool,b 9=true->b 8=true->b 7=true->b 6=true->b 5=true->b 4=true->b 3=true->b 2=true->b 1=true->b 0=true->∀ c d e f g h i j k l m,a b c d e f g h i j k l m->
 R (.returned c) m)) (
 RR (aG .eql 9 false true a (.string ⟨#[92,61]⟩)) d fun c d=>
 CondV c (
 RR (sOp (.nilCheck (.const p0)) 0) d fun a c=>
 RR (sOp (.fieldAddr 155 (.const a) 1) 0) c fun a c=>
 RR (sOp (.load 49 (.const a)) 49) c fun a c=>
 RR (aM .len #[49] 3 [false] [a]) c fun a c=>
 (∃ d:(Nat->Bool)->Value->Value->Value->Value->Value->Value->Value->Value->Value->World->Prop,d (fun _=>false) undef undef undef undef undef undef undef undef undef { c with drawn:=c.drawn+1 }/\(
 (∀ a:Nat->Bool,a 0=false->∀ b c e f g h i j k l,d a b c e f g h i j k l->
 d (aD a 0) b c e f g h i j p0 l)/\
 (∀ a:Nat->Bool,a 1=false->∀ c e f g h i j k l m,d a c e f g h i j k l m->
 d (aD a 1) c e f g h i j b l m)/\
 (∀ a:Nat->Bool,a 2=false->a 1=true->∀ b c e f g h i j k l,d a b c e f g h i j k l->
 RR (sOp (.indexAddr 34 (.const j) (.const (.int .i64 0))) 0) l fun i l=>
 d (aD a 2) b c e f g h i j k l)/\
 (∀ a:Nat->Bool,a 3=false->a 2=true->∀ b c e f g h i j k l,d a b c e f g h i j k l->
 RR (sOp (.load 36 (.const i)) 36) l fun h l=>
 d (aD a 3) b c e f g h i j k l)/\
 (∀ a:Nat->Bool,a 4=false->∀ c e f g h i j k l m,d a c e f g h i j k l m->
 d (aD a 4) c e f g b i j k l m)/\
 (∀ a:Nat->Bool,a 5=false->a 4=true->∀ b c e f g h i j k l,d a b c e f g h i j k l->
 RR (sOp (.indexAddr 34 (.const g) (.const (.int .i64 1))) 0) l fun f l=>
 d (aD a 5) b c e f g h i j k l)/\
 (∀ a:Nat->Bool,a 6=false->a 5=true->∀ b c e f g h i j k l,d a b c e f g h i j k l->
 RR (sOp (.load 36 (.const f)) 36) l fun e l=>
 d (aD a 6) b c e f g h i j k l)/\
 (∀ a:Nat->Bool,a 7=false->a 0=true->a 3=true->a 6=true->∀ b c e f g h i j k l,d a b c e f g h i j k l->
 RR (aN (.func (.func 123) #[] #[]) [k,h,e]) l fun c l=>
 d (aD a 7) b c e f g h i j k l)/\
 (∀ a:Nat->Bool,a 8=false->a 7=true->a 7=true->a 0=true->a 1=true->a 2=true->a 3=true->a 4=true->a 5=true->a 6=true->a 7=true->∀ b c e f g h i j k l,d a b c e f g h i j k l->
 d (aD a 8) c c e f g h i j k l)/\
 True)/\
 ∀ b:Nat->Bool,b 8=true->b 7=true->b 6=true->b 5=true->b 4=true->b 3=true->b 2=true->b 1=true->b 0=true->∀ c e f g h i j k l m,d b c e f g h i j k l m->
 RR (aN (.func (.func 124) #[] #[]) [p0,a]) m fun _ a=>
 RR (sOp (.unOp .not 4 (.const c)) 4) a fun a b=>
 RR (aN (.func (.func 122) #[] #[]) [a]) b fun a b=>
 R (.returned a) b)) (
 RR (aG .eql 9 false true a (.string ⟨#[61,61]⟩)) d fun c d=>
 CondV c (
 (∃ a:(Nat->Bool)->Value->Value->Value->Value->Value->Value->Value->Value->Value->World->Prop,a (fun _=>false) (.int .i64 0) undef undef undef undef undef undef undef undef { d with drawn:=d.drawn+1 }/\(
 (∀ c:Nat->Bool,c 0=false->∀ d e f g h i j k l m,a c d e f g h i j k l m->
 a (aD c 0) d e f g h i j k b m)/\
 (∀ b:Nat->Bool,b 1=false->b 0=true->∀ c d e f g h i j k l,a b c d e f g h i j k l->
 RR (sOp (.indexAddr 34 (.const k) (.const (.int .i64 0))) 0) l fun j l=>
 a (aD b 1) c d e f g h i j k l)/\
 (∀ b:Nat->Bool,b 2=false->b 1=true->∀ c d e f g h i j k l,a b c d e f g h i j k l->
 RR (sOp (.load 36 (.const j)) 36) l fun i l=>
 a (aD b 2) c d e f g h i j k l)/\
 (∀ c:Nat->Bool,c 3=false->∀ d e f g h i j k l m,a c d e f g h i j k l m->
 a (aD c 3) d e f g h b j k l m)/\
 (∀ b:Nat->Bool,b 4=false->b 3=true->∀ c d e f g h i j k l,a b c d e f g h i j k l->
 RR (sOp (.indexAddr 34 (.const h) (.const (.int .i64 1))) 0) l fun g l=>
 a (aD b 4) c d e f g h i j k l)/\
 (∀ b:Nat->Bool,b 5=false->b 4=true->∀ c d e f g h i j k l,a b c d e f g h i j k l->
 RR (sOp (.load 36 (.const g)) 36) l fun f l=>
 a (aD b 5) c d e f g h i j k l)/\
 (∀ b:Nat->Bool,b 6=false->b 2=true->b 5=true->∀ c d e f g h i j k l,a b c d e f g h i j k l->
 RR (aN (.func (.func 90) #[] #[]) [i,f]) l fun e l=>
 a (aD b 6) c d e f g h i j k l)/\
 (∀ b:Nat->Bool,b 7=false->b 6=true->b 6=true->∀ c d e f g h i j k l,a b c d e f g h i j k l->
 RR (aN (.func (.func 122) #[] #[]) [e]) l fun d l=>
 a (aD b 7) c d e f g h i j k l)/\
 (∀ b:Nat->Bool,b 8=false->b 7=true->b 7=true->b 0=true->b 1=true->b 2=true->b 3=true->b 4=true->b 5=true->b 6=true->b 7=true->∀ c d e f g h i j k l,a b c d e f g h i j k l->
 a (aD b 8) d d e f g h i j k l)/\
 True)/\
 ∀ b:Nat->Bool,b 8=true->b 7=true->b 6=true->b 5=true->b 4=true->b 3=true->b 2=true->b 1=true->b 0=true->∀ c d e f g h i j k l,a b c d e f g h i j k l->
 R (.returned c) l)) (
 RR (aG .eql 9 false true a (.string ⟨#[105,115]⟩)) d fun c d=>
 CondV c (
 RR (sOp (.indexAddr 34 (.const b) (.const (.int .i64 1))) 0) d fun a c=>
 RR (sOp (.load 36 (.const a)) 36) c fun a c=>
 RR (aN (.func (.func 125) #[] #[]) [a]) c fun a c=>
 RR (sOp (.extract (.const a) 0) 3) c fun c d=>
 RR (sOp (.extract (.const a) 1) 3) d fun a d=>
 RR (aG .neq 3 false true a (.int .i64 0)) d fun d e=>
 CondV d (
 R (.returned a) e) (
 (∃ a:(Nat->Bool)->Value->Value->Value->Value->Value->Value->Value->Value->Value->World->Prop,a (fun _=>false) (.int .i64 0) undef undef undef undef undef undef undef undef { e with drawn:=e.drawn+1 }/\(
 (∀ b:Nat->Bool,b 0=false->∀ c d e f g h i j k l,a b c d e f g h i j k l->
 a (aD b 0) c d e f g h i j p0 l)/\
 (∀ c:Nat->Bool,c 1=false->∀ d e f g h i j k l m,a c d e f g h i j k l m->
 a (aD c 1) d e f g h i j b l m)/\
 (∀ b:Nat->Bool,b 2=false->b 1=true->∀ c d e f g h i j k l,a b c d e f g h i j k l->
 RR (sOp (.indexAddr 34 (.const j) (.const (.int .i64 0))) 0) l fun i l=>
 a (aD b 2) c d e f g h i j k l)/\
 (∀ b:Nat->Bool,b 3=false->b 2=true->∀ c d e f g h i j k l,a b c d e f g h i j k l->
 RR (sOp (.load 36 (.const i)) 36) l fun h l=>
 a (aD b 3) c d e f g h i j k l)/\
 (∀ b:Nat->Bool,b 4=false->∀ d e f g h i j k l m,a b d e f g h i j k l m->
 a (aD b 4) d e f g c i j k l m)/\
 (∀ b:Nat->Bool,b 5=false->b 4=true->∀ c d e f g h i j k l,a b c d e f g h i j k l->
 RR (aN (.func (.func 126) #[] #[]) [g]) l fun f l=>
 a (aD b 5) c d e f g h i j k l)/\
 (∀ b:Nat->Bool,b 6=false->b 0=true->b 3=true->b 5=true->b 5=true->∀ c d e f g h i j k l,a b c d e f g h i j k l->
 RR (aN (.func (.func 123) #[] #[]) [k,h,f]) l fun e l=>
 a (aD b 6) c d e f g h i j k l)/\
 (∀ b:Nat->Bool,b 7=false->b 6=true->b 6=true->∀ c d e f g h i j k l,a b c d e f g h i j k l->
 RR (aN (.func (.func 122) #[] #[]) [e]) l fun d l=>
 a (aD b 7) c d e f g h i j k l)/\
 (∀ b:Nat->Bool,b 8=false->b 7=true->b 7=true->b 0=true->b 1=true->b 2=true->b 3=true->b 4=true->b 5=true->b 6=true->b 7=true->∀ c d e f g h i j k l,a b c d e f g h i j k l->
 a (aD b 8) d d e f g h i j k l)/\
 True)/\
 ∀ b:Nat->Bool,b 8=true->b 7=true->b 6=true->b 5=true->b 4=true->b 3=true->b 2=true->b 1=true->b 0=true->∀ c d e f g h i j k l,a b c d e f g h i j k l->
 R (.returned c) l))) (
 RR (aG .eql 9 false true a (.string ⟨#[118,97,114]⟩)) d fun c d=>
 CondV c (
 RR (sOp (.indexAddr 34 (.const b) (.const (.int .i64 0))) 0) d fun a b=>
 RR (sOp (.fieldAddr 36 (.const a) 0) 0) b fun a b=>
 RR (sOp (.load 3 (.const a)) 3) b fun a b=>
 RR (aG .eql 3 false true a (.int .i64 1)) b fun a b=>
 RR (aN (.func (.func 122) #[] #[]) [a]) b fun a b=>
 R (.returned a) b) (
 RR (aG .eql 9 false true a (.string ⟨#[110,111,110,118,97,114]⟩)) d fun c d=>
 CondV c (
 RR (sOp (.indexAddr 34 (.const b) (.const (.int .i64 0))) 0) d fun a b=>
 RR (sOp (.fieldAddr 36 (.const a) 0) 0) b fun a b=>
 RR (sOp (.load 3 (.const a)) 3) b fun a b=>
 RR (aG .neq 3 false true a (.int .i64 1)) b fun a b=>
 RR (aN (.func (.func 122) #[] #[]) [a]) b fun a b=>
 R (.returned a) b) (
 RR (aG .eql 9 false true a (.string ⟨#[97,116,111,109]⟩)) d fun c d=>
 CondV c (
 RR (sOp (.indexAddr 34 (.const b) (.const (.int .i64 0))) 0) d fun a b=>
 RR (sOp (.load 36 (.const a)) 36) b fun a b=>
 RR (aN (.func (.func 91) #[] #[]) [a]) b fun a b=>
 RR (aN (.func (.func 122) #[] #[]) [a]) b fun a b=>
 R (.returned a) b) (
 RR (aG .eql 9 false true a (.string ⟨#[105,110,116]⟩)) d fun a c=>
 CondV a (
 RR (sOp (.indexAddr 34 (.const b) (.const (.int .i64 0))) 0) c fun a b=>
 RR (sOp (.fieldAddr 36 (.const a) 0) 0) b fun a b=>
 RR (sOp (.load 3 (.const a)) 3) b fun a b=>
 RR (aG .eql 3 false true a (.int .i64 2)) b fun a b=>
 RR (aN (.func (.func 122) #[] #[]) [a]) b fun a b=>
 R (.returned a) b) (
 (∃ a:Value->World->Prop,(
 RR (sOp (.indexAddr 34 (.const b) (.const (.int .i64 0))) 0) c fun c d=>
 RR (sOp (.fieldAddr 36 (.const c) 0) 0) d fun c d=>
 RR (sOp (.load 3 (.const c)) 3) d fun c d=>
 RR (aG .eql 3 false true c (.int .i64 1)) d fun c d=>
 ak c false (
 RR (sOp (.indexAddr 34 (.const b) (.const (.int .i64 1))) 0) d fun b d=>
 RR (sOp (.fieldAddr 36 (.const b) 0) 0) d fun b d=>
 RR (sOp (.load 3 (.const b)) 3) d fun b d=>
 RR (aG .eql 3 false true b (.int .i64 1)) d fun b d=>
 RR (sOp (.pick (.const c) (.const (.bool true)) (.const b)) 4) d fun b c=>
 a b c) (
 RR (sOp (.pick (.const c) (.const (.bool true)) (.const undef)) 4) d fun b c=>
 a b c))/\
 ∀ c _ _ _ _ _ _ _ _ _ _ _ _:Value,∀ d:World,a c d->
 CondV c (
 R (.returned (.int .i64 2)) d) (
 (∃ a:Value->World->Prop,(
 RR (sOp (.indexAddr 34 (.const b) (.const (.int .i64 0))) 0) d fun c d=>
 RR (sOp (.fieldAddr 36 (.const c) 0) 0) d fun c d=>
 RR (sOp (.load 3 (.const c)) 3) d fun c d=>
 RR (aG .neq 3 false true c (.int .i64 2)) d fun c d=>
 ((fun a:VW=>ak c false (
 RR (sOp (.indexAddr 34 (.const b) (.const (.int .i64 1))) 0) d fun b d=>
 RR (sOp (.fieldAddr 36 (.const b) 0) 0) d fun b d=>
 RR (sOp (.load 3 (.const b)) 3) d fun b d=>
 RR (aG .neq 3 false true b (.int .i64 3)) d fun b d=>
 RR (sOp (.pick (.const c) (.const (.bool true)) (.const b)) 4) d fun b c=>a b c) (
 RR (sOp (.pick (.const c) (.const (.bool true)) (.const undef)) 4) d fun b c=>a b c)) fun c d=>
 ak c false (
 RR (sOp (.indexAddr 34 (.const b) (.const (.int .i64 1))) 0) d fun b d=>
 RR (sOp (.fieldAddr 36 (.const b) 3) 0) d fun b d=>
 RR (sOp (.load 34 (.const b)) 34) d fun b d=>
 RR (aM .len #[34] 3 [false] [b]) d fun b d=>
 RR (aG .eql 3 false true b (.int .i64 0)) d fun b d=>
 RR (sOp (.pick (.const c) (.const (.bool true)) (.const b)) 4) d fun b c=>
 a b c) (
 RR (sOp (.pick (.const c) (.const (.bool true)) (.const undef)) 4) d fun b c=>
 a b c)))/\
 ∀ c _ _ _ _ _ _ _ _ _ _ _ _ _ _ _ _ _ _ _ _:Value,∀ d:World,a c d->
 CondV c (
 R (.returned (.int .i64 3)) d) (
 (∃ a:(Nat->Bool)->Value->Value->Value->Value->Value->Value->Value->Value->Value->Value->Value->Value->World->Prop,a (fun _=>false) undef undef undef undef undef undef undef undef undef undef undef undef { d with drawn:=d.drawn+1 }/\(
 (∀ c:Nat->Bool,c 0=false->∀ d e f g h i j k l m n o p,a c d e f g h i j k l m n o p->
 a (aD c 0) d e f g h i j k l m n b p)/\
 (∀ b:Nat->Bool,b 1=false->b 0=true->∀ c d e f g h i j k l m n o,a b c d e f g h i j k l m n o->
 RR (sOp (.indexAddr 34 (.const n) (.const (.int .i64 0))) 0) o fun m o=>
 a (aD b 1) c d e f g h i j k l m n o)/\
 (∀ b:Nat->Bool,b 2=false->b 1=true->∀ c d e f g h i j k l m n o,a b c d e f g h i j k l m n o->
 RR (sOp (.fieldAddr 36 (.const m) 1) 0) o fun l o=>
 a (aD b 2) c d e f g h i j k l m n o)/\
 (∀ b:Nat->Bool,b 3=false->b 2=true->∀ c d e f g h i j k l m n o,a b c d e f g h i j k l m n o->
 RR (sOp (.load 3 (.const l)) 3) o fun k o=>
 a (aD b 3) c d e f g h i j k l m n o)/\
 (∀ c:Nat->Bool,c 4=false->∀ d e f g h i j k l m n o p,a c d e f g h i j k l m n o p->
 a (aD c 4) d e f g h i j b l m n o p)/\
 (∀ b:Nat->Bool,b 5=false->b 4=true->∀ c d e f g h i j k l m n o,a b c d e f g h i j k l m n o->
 RR (sOp (.indexAddr 34 (.const j) (.const (.int .i64 1))) 0) o fun i o=>
 a (aD b 5) c d e f g h i j k l m n o)/\
 (∀ b:Nat->Bool,b 6=false->b 5=true->∀ c d e f g h i j k l m n o,a b c d e f g h i j k l m n o->
 RR (sOp (.fieldAddr 36 (.const i) 3) 0) o fun h o=>
 a (aD b 6) c d e f g h i j k l m n o)/\
 (∀ b:Nat->Bool,b 7=false->b 6=true->∀ c d e f g h i j k l m n o,a b c d e f g h i j k l m n o->
 RR (sOp (.load 34 (.const h)) 34) o fun g o=>
 a (aD b 7) c d e f g h i j k l m n o)/\
 (∀ b:Nat->Bool,b 8=false->b 7=true->∀ c d e f g h i j k l m n o,a b c d e f g h i j k l m n o->
 RR (aM .len #[34] 3 [false] [g]) o fun f o=>
 a (aD b 8) c d e f g h i j k l m n o)/\
 (∀ b:Nat->Bool,b 9=false->b 3=true->b 8=true->∀ c d e f g h i j k l m n o,a b c d e f g h i j k l m n o->
 RR (aN (.func (.func 64) #[] #[]) [k,(.int .i64 1),f]) o fun e o=>
 a (aD b 9) c d e f g h i j k l m n o)/\
 (∀ b:Nat->Bool,b 10=false->b 9=true->∀ c d e f g h i j k l m n o,a b c d e f g h i j k l m n o->
 RR (sOp (.unOp .not 4 (.const e)) 4) o fun d o=>
 a (aD b 10) c d e f g h i j k l m n o)/\
 (∀ b:Nat->Bool,b 11=false->b 10=true->b 9=true->∀ c d e f g h i j k l m n o,a b c d e f g h i j k l m n o->
 a (aD b 11) d d e f g h i j k l m n o)/\
 True)/\
 ∀ c:Nat->Bool,c 11=true->c 10=true->c 9=true->c 8=true->c 7=true->c 6=true->c 5=true->c 4=true->c 3=true->c 2=true->c 1=true->c 0=true->∀ d e f g h i j k l m n o p,a c d e f g h i j k l m n o p->
 CondV d (
 R (.returned (.int .i64 1)) p) (
 (∃ a:(Nat->Bool)->Value->Value->Value->Value->Value->Value->Value->Value->Value->Value->Value->Value->Value->Value->Value->Value->Value->Value->World->Prop,a (fun _=>false) (.int .i64 0) undef undef undef undef undef undef undef undef undef undef undef undef undef undef undef undef undef { p with drawn:=p.drawn+1 }/\(
 (∀ b:Nat->Bool,b 0=false->∀ c d e f g h i j k l m n o p q r s t u,a b c d e f g h i j k l m n o p q r s t u->
 a (aD b 0) c d e f g h i j k l m n o p q r s p0 u)/\
 (∀ c:Nat->Bool,c 1=false->∀ d e f g h i j k l m n o p q r s t u v,a c d e f g h i j k l m n o p q r s t u v->
 a (aD c 1) d e f g h i j k l m n o p q r s b u v)/\
 (∀ b:Nat->Bool,b 2=false->b 1=true->∀ c d e f g h i j k l m n o p q r s t u,a b c d e f g h i j k l m n o p q r s t u->
 RR (sOp (.indexAddr 34 (.const s) (.const (.int .i64 2))) 0) u fun r u=>
 a (aD b 2) c d e f g h i j k l m n o p q r s t u)/\
 (∀ b:Nat->Bool,b 3=false->b 2=true->∀ c d e f g h i j k l m n o p q r s t u,a b c d e f g h i j k l m n o p q r s t u->
 RR (sOp (.load 36 (.const r)) 36) u fun q u=>
 a (aD b 3) c d e f g h i j k l m n o p q r s t u)/\
 (∀ c:Nat->Bool,c 4=false->∀ d e f g h i j k l m n o p q r s t u v,a c d e f g h i j k l m n o p q r s t u v->
 a (aD c 4) d e f g h i j k l m n o p b r s t u v)/\
 (∀ b:Nat->Bool,b 5=false->b 4=true->∀ c d e f g h i j k l m n o p q r s t u,a b c d e f g h i j k l m n o p q r s t u->
 RR (sOp (.indexAddr 34 (.const p) (.const (.int .i64 1))) 0) u fun o u=>
 a (aD b 5) c d e f g h i j k l m n o p q r s t u)/\
 (∀ b:Nat->Bool,b 6=false->b 5=true->∀ c d e f g h i j k l m n o p q r s t u,a b c d e f g h i j k l m n o p q r s t u->
 RR (sOp (.fieldAddr 36 (.const o) 3) 0) u fun n u=>
 a (aD b 6) c d e f g h i j k l m n o p q r s t u)/\
 (∀ b:Nat->Bool,b 7=false->b 6=true->∀ c d e f g h i j k l m n o p q r s t u,a b c d e f g h i j k l m n o p q r s t u->
 RR (sOp (.load 34 (.const n)) 34) u fun m u=>
 a (aD b 7) c d e f g h i j k l m n o p q r s t u)/\
 (∀ c:Nat->Bool,c 8=false->∀ d e f g h i j k l m n o p q r s t u v,a c d e f g h i j k l m n o p q r s t u v->
 a (aD c 8) d e f g h i j k l b n o p q r s t u v)/\
 (∀ b:Nat->Bool,b 9=false->b 8=true->∀ c d e f g h i j k l m n o p q r s t u,a b c d e f g h i j k l m n o p q r s t u->
 RR (sOp (.indexAddr 34 (.const l) (.const (.int .i64 0))) 0) u fun k u=>
 a (aD b 9) c d e f g h i j k l m n o p q r s t u)/\
 (∀ b:Nat->Bool,b 10=false->b 9=true->∀ c d e f g h i j k l m n o p q r s t u,a b c d e f g h i j k l m n o p q r s t u->
 RR (sOp (.fieldAddr 36 (.const k) 1) 0) u fun j u=>
 a (aD b 10) c d e f g h i j k l m n o p q r s t u)/\
 (∀ b:Nat->Bool,b 11=false->b 10=true->∀ c d e f g h i j k l m n o p q r s t u,a b c d e f g h i j k l m n o p q r s t u->
 RR (sOp (.load 3 (.const j)) 3) u fun i u=>
 a (aD b 11) c d e f g h i j k l m n o p q r s t u)/\
 (∀ b:Nat->Bool,b 12=false->b 11=true->∀ c d e f g h i j k l m n o p q r s t u,a b c d e f g h i j k l m n o p q r s t u->
 RR (aG .sub 3 false true i (.int .i64 1)) u fun h u=>
 a (aD b 12) c d e f g h i j k l m n o p q r s t u)/\
 (∀ b:Nat->Bool,b 13=false->b 7=true->b 12=true->∀ c d e f g h i j k l m n o p q r s t u,a b c d e f g h i j k l m n o p q r s t u->
 RR (sOp (.indexAddr 34 (.const m) (.const h)) 0) u fun g u=>
 a (aD b 13) c d e f g h i j k l m n o p q r s t u)/\
 (∀ b:Nat->Bool,b 14=false->b 13=true->∀ c d e f g h i j k l m n o p q r s t u,a b c d e f g h i j k l m n o p q r s t u->
 RR (sOp (.load 36 (.const g)) 36) u fun f u=>
 a (aD b 14) c d e f g h i j k l m n o p q r s t u)/\
 (∀ b:Nat->Bool,b 15=false->b 0=true->b 3=true->b 14=true->∀ c d e f g h i j k l m n o p q r s t u,a b c d e f g h i j k l m n o p q r s t u->
 RR (aN (.func (.func 123) #[] #[]) [t,q,f]) u fun e u=>
 a (aD b 15) c d e f g h i j k l m n o p q r s t u)/\
 (∀ b:Nat->Bool,b 16=false->b 15=true->b 15=true->∀ c d e f g h i j k l m n o p q r s t u,a b c d e f g h i j k l m n o p q r s t u->
 RR (aN (.func (.func 122) #[] #[]) [e]) u fun d u=>
 a (aD b 16) c d e f g h i j k l m n o p q r s t u)/\
 (∀ b:Nat->Bool,b 17=false->b 16=true->b 16=true->b 0=true->b 1=true->b 2=true->b 3=true->b 4=true->b 5=true->b 6=true->b 7=true->b 8=true->b 9=true->b 10=true->b 11=true->b 12=true->b 13=true->b 14=true->b 15=true->b 16=true->∀ c d e f g h i j k l m n o p q r s t u,a b c d e f g h i j k l m n o p q r s t u->
 a (aD b 17) d d e f g h i j k l m n o p q r s t u)/\
 True)/\
 ∀ b:Nat->Bool,b 17=true->b 16=true->b 15=true->b 14=true->b 13=true->b 12=true->b 11=true->b 10=true->b 9=true->b 8=true->b 7=true->b 6=true->b 5=true->b 4=true->b 3=true->b 2=true->b 1=true->b 0=true->∀ c d e f g h i j k l m n o p q r s t u,a b c d e f g h i j k l m n o p q r s t u->
 R (.returned c) u))))))))))))))))))
theorem om {p0 p1:Value} {w:World} {R:Ending->World->Prop} (h:lf p0 p1 w R):Calls Tryz.prog 87 #[p0,p1] w R:=
  aQ (.seq none .leaf (.seq none .leaf (.seq none .leaf (.seq none .leaf (.seq none (.one (.seq (some [115]) .leaf (.two .leaf (.seq (some [128]) .leaf .leaf)))) .leaf))))) [p0,p1] bl Tryz.func87 (by kernel_rfl) (by kernel_rfl) h


/- (*loop.example/prologserver/impl.store).all : function 88 -/
def lA (p0:Value) (w:World) (R:Ending->World->Prop):Prop:=
 (∃ (a:Value->Value->World->Prop) (b:Value->Value->World->Nat),a (.int .i64 0) (Value.slice none 0 0) w/\
 ∀ c _ d _ _ _ _ _ _ _ _ _ _ _ _ _ _ _ _ _ _ _ _ _ _ _ _ _ _ _ _ _ _ _ _ _:Value,∀ e:World,a c d e->
 RR (aG .lss 3 false true c (.int .i64 26)) e fun f g=>
 CondV f (
 (∃ f:Value->World->Prop,(
 RR (sOp (.nilCheck (.const p0)) 0) g fun a b=>
 RR (sOp (.fieldAddr 155 (.const a) 0) 0) b fun a b=>
 RR (sOp (.load 92 (.const a)) 92) b fun a b=>
 RR (sOp (.lookup 92 (.const a) (.const c) true) 118) b fun a b=>
 RR (sOp (.extract (.const a) 0) 36) b fun b e=>
 RR (sOp (.extract (.const a) 1) 4) e fun a e=>
 RR (sOp (.alloc 36) 0) e fun e g=>
 RR (sOp (.store 36 (.const e) (.const b)) 0) g fun _ b=>
 RR (sOp (.unOp .not 4 (.const a)) 4) b fun a b=>
 CondV a (
 f d b) (
 RR (sOp (.load 36 (.const e)) 36) b fun a b=>
 RR (aN (.func (.func 127) #[] #[]) [p0,a]) b fun a b=>
 RR (sOp (.extract (.const a) 0) 36) b fun b e=>
 RR (sOp (.extract (.const a) 1) 4) e fun a e=>
 RR (sOp (.alloc 36) 0) e fun e g=>
 RR (sOp (.store 36 (.const e) (.const b)) 0) g fun _ b=>
 RR (sOp (.unOp .not 4 (.const a)) 4) b fun a b=>
 CondV a (
 R (.returned (.tuple #[(Value.slice none 0 0),(.bool false)])) b) (
 RR (sOp (.load 36 (.const e)) 36) b fun a b=>
 RR (dn 162 [(0,c),(1,a)]) b fun a b=>
 RR (bB 88 1 [(0,a)]) b fun a b=>
 RR (aM .append #[88,88] 88 [false,false] [d,a]) b fun a b=>
 f a b)))/\
 ∀ g _ _ _ _ _ _ _ _ _ _ _ _ _ _ _ _ _ _ _ _ _ _ _ _ _ _ _ _ _ _ _ _:Value,∀ h:World,f g h->
 RR (aG .add 3 false true c (.int .i64 1)) h fun f h=>
 a f g h/\b f g h<b c d e)) (
 R (.returned (.tuple #[d,(.bool true)])) g))
theorem qi {p0:Value} {w:World} {R:Ending->World->Prop} (h:lA p0 w R):Calls Tryz.prog 88 #[p0] w R:=
  aQ (.seq none .leaf (.seq none .leaf (.seq none (.seq none .leaf (.one (.loop [9,4] (.seq none .leaf (.seq none .leaf (.seq (some [4]) .leaf .leaf)))))) .leaf))) [p0] bl Tryz.func88 (by kernel_rfl) (by kernel_rfl) h


/- loop.example/prologserver/impl.IsBuiltin : function 89 -/
def lG (p0 p1:Value) (w:World) (R:Ending->World->Prop):Prop:=
 (∃ a:Value->World->Prop,(
 RR (aG .eql 9 false true p0 (.string ⟨#[61]⟩)) w fun b c=>
 CondV b (
 a b c) (
 RR (aG .eql 9 false true p0 (.string ⟨#[92,61]⟩)) c fun b c=>
 CondV b (
 a b c) (
 RR (aG .eql 9 false true p0 (.string ⟨#[61,61]⟩)) c fun b c=>
 CondV b (
 a b c) (
 RR (aG .eql 9 false true p0 (.string ⟨#[60]⟩)) c fun b c=>
 CondV b (
 a b c) (
 RR (aG .eql 9 false true p0 (.string ⟨#[62]⟩)) c fun b c=>
 CondV b (
 a b c) (
 RR (aG .eql 9 false true p0 (.string ⟨#[61,60]⟩)) c fun b c=>
 CondV b (
 a b c) (
 RR (aG .eql 9 false true p0 (.string ⟨#[62,61]⟩)) c fun b c=>
 CondV b (
 a b c) (
 RR (aG .eql 9 false true p0 (.string ⟨#[61,58,61]⟩)) c fun b c=>
 CondV b (
 a b c) (
 RR (aG .eql 9 false true p0 (.string ⟨#[105,115]⟩)) c fun b c=>
 a b c)))))))))/\
 ∀ _ _ _ _ _ _ _ _ b _:Value,∀ c:World,a b c->
 CondV b (
 RR (aG .eql 3 false true p1 (.int .i64 2)) c fun a b=>
 R (.returned a) b) (
 (∃ a:Value->World->Prop,(
 RR (aG .eql 9 false true p0 (.string ⟨#[116,114,117,101]⟩)) c fun b c=>
 CondV b (
 a b c) (
 RR (aG .eql 9 false true p0 (.string ⟨#[102,97,105,108]⟩)) c fun b c=>
 a b c))/\
 ∀ _ b _:Value,∀ c:World,a b c->
 CondV b (
 RR (aG .eql 3 false true p1 (.int .i64 0)) c fun a b=>
 R (.returned a) b) (
 (∃ a:Value->World->Prop,(
 RR (aG .eql 9 false true p0 (.string ⟨#[118,97,114]⟩)) c fun b c=>
 CondV b (
 a b c) (
 RR (aG .eql 9 false true p0 (.string ⟨#[110,111,110,118,97,114]⟩)) c fun b c=>
 CondV b (
 a b c) (
 RR (aG .eql 9 false true p0 (.string ⟨#[97,116,111,109]⟩)) c fun b c=>
 CondV b (
 a b c) (
 RR (aG .eql 9 false true p0 (.string ⟨#[105,110,116]⟩)) c fun b c=>
 a b c))))/\
 ∀ _ _ _ b _:Value,∀ c:World,a b c->
 CondV b (
 RR (aG .eql 3 false true p1 (.int .i64 1)) c fun a b=>
 R (.returned a) b) (
 RR (aG .eql 9 false true p0 (.string ⟨#[97,114,103]⟩)) c fun a b=>
 CondV a (
 RR (aG .eql 3 false true p1 (.int .i64 3)) b fun a b=>
 R (.returned a) b) (
 R (.returned (.bool false)) b)))))))
theorem oK {p0 p1:Value} {w:World} {R:Ending->World->Prop} (h:lG p0 p1 w R):Calls Tryz.prog 89 #[p0,p1] w R:=
  aQ (.seq none .leaf (.seq none (.seq none .leaf (.one (.seq (some [6]) .leaf (.two .leaf (.seq (some [18]) .leaf (.two .leaf (.seq (some [23]) .leaf .leaf))))))) .leaf)) [p0,p1] bl Tryz.func89 (by kernel_rfl) (by kernel_rfl) h


/- loop.example/prologserver/impl.TermSame : function 90 -/
def nD (p0 p1:Value) (w:World) (R:Ending->World->Prop):Prop:=
 RR (sOp (.box 36 (.const p0)) 0) w fun a b=>
 RR (sOp (.box 36 (.const p1)) 0) b fun b c=>
 RR (sOp (.fieldAddr 36 (.const a) 0) 0) c fun c d=>
 RR (sOp (.load 3 (.const c)) 3) d fun c d=>
 RR (sOp (.fieldAddr 36 (.const b) 0) 0) d fun d e=>
 RR (sOp (.load 3 (.const d)) 3) e fun d e=>
 RR (aG .eql 3 false false c d) e fun c d=>
 ((fun e:VW=>ak c true (
 RR (sOp (.fieldAddr 36 (.const a) 1) 0) d fun a d=>
 RR (sOp (.load 3 (.const a)) 3) d fun a d=>
 RR (sOp (.fieldAddr 36 (.const b) 1) 0) d fun b d=>
 RR (sOp (.load 3 (.const b)) 3) d fun b d=>
 RR (aG .eql 3 false false a b) d fun a b=>
 RR (sOp (.pick (.const c) (.const a) (.const (.bool false))) 4) b fun a b=>e a b) (
 RR (sOp (.pick (.const c) (.const undef) (.const (.bool false))) 4) d fun a b=>e a b)) fun c d=>
 ((fun e:VW=>ak c true (
 RR (sOp (.fieldAddr 36 (.const a) 2) 0) d fun a d=>
 RR (sOp (.load 9 (.const a)) 9) d fun a d=>
 RR (sOp (.fieldAddr 36 (.const b) 2) 0) d fun b d=>
 RR (sOp (.load 9 (.const b)) 9) d fun b d=>
 RR (aG .eql 9 false false a b) d fun a b=>
 RR (sOp (.pick (.const c) (.const a) (.const (.bool false))) 4) b fun a b=>e a b) (
 RR (sOp (.pick (.const c) (.const undef) (.const (.bool false))) 4) d fun a b=>e a b)) fun c d=>
 ak c true (
 RR (sOp (.fieldAddr 36 (.const a) 3) 0) d fun a d=>
 RR (sOp (.load 34 (.const a)) 34) d fun a d=>
 RR (sOp (.fieldAddr 36 (.const b) 3) 0) d fun b d=>
 RR (sOp (.load 34 (.const b)) 34) d fun b d=>
 RR (aN (.func (.func 128) #[] #[]) [a,b,(.func (.func 90) #[] #[])]) d fun a b=>
 RR (sOp (.pick (.const c) (.const a) (.const (.bool false))) 4) b fun a b=>
 R (.returned a) b) (
 RR (sOp (.pick (.const c) (.const undef) (.const (.bool false))) 4) d fun a b=>
 R (.returned a) b)))
theorem ri {p0 p1:Value} {w:World} {R:Ending->World->Prop} (h:nD p0 p1 w R):Calls Tryz.prog 90 #[p0,p1] w R:=
  aQ .leaf [p0,p1] bl Tryz.func90 (by kernel_rfl) (by kernel_rfl) h


/- loop.example/prologserver/impl.isAtom : function 91 -/
def r6 (p0:Value) (w:World) (R:Ending->World->Prop):Prop:=
 RR (sOp (.box 36 (.const p0)) 0) w fun a b=>
 RR (sOp (.fieldAddr 36 (.const a) 0) 0) b fun b c=>
 RR (sOp (.load 3 (.const b)) 3) c fun b c=>
 RR (aG .eql 3 false true b (.int .i64 3)) c fun b c=>
 ak b true (
 RR (sOp (.fieldAddr 36 (.const a) 3) 0) c fun a c=>
 RR (sOp (.load 34 (.const a)) 34) c fun a c=>
 RR (aM .len #[34] 3 [false] [a]) c fun a c=>
 RR (aG .eql 3 false true a (.int .i64 0)) c fun a c=>
 RR (sOp (.pick (.const b) (.const a) (.const (.bool false))) 4) c fun a b=>
 R (.returned a) b) (
 RR (sOp (.pick (.const b) (.const undef) (.const (.bool false))) 4) c fun a b=>
 R (.returned a) b)
theorem uL {p0:Value} {w:World} {R:Ending->World->Prop} (h:r6 p0 w R):Calls Tryz.prog 91 #[p0] w R:=
  aQ .leaf [p0] bl Tryz.func91 (by kernel_rfl) (by kernel_rfl) h


/- slices.IndexFunc[[]loop.example/prologserver/impl.Proof,loop.example/prologserver/impl.Proof] : function 92 -/
def gM (p0 p1:Value) (w:World) (R:Ending->World->Prop):Prop:=
 RR (aM .len #[37] 3 [false] [p0]) w fun a b=>
 (∃ (c:Value->World->Prop) (d:Value->World->Nat),c (.int .i64 0) b/\
 ∀ b _ _ _ _ _ _ _ _ _ _ _ _:Value,∀ e:World,c b e->
 RR (aG .lss 3 false false b a) e fun a f=>
 CondV a (
 RR (sOp (.indexAddr 37 (.const p0) (.const b)) 0) f fun a f=>
 RR (sOp (.load 39 (.const a)) 39) f fun a f=>
 RR (aN p1 [a]) f fun a f=>
 CondV a (
 R (.returned b) f) (
 RR (aG .add 3 false true b (.int .i64 1)) f fun a f=>
 c a f/\d a f<d b e)) (
 R (.returned (.int .i64 (-1))) f))
theorem ka {p0 p1:Value} {w:World} {R:Ending->World->Prop} (h:gM p0 p1 w R):Calls Tryz.prog 92 #[p0,p1] w R:=
  aQ (.seq none .leaf (.seq none (.seq none .leaf (.one (.loop [8] .leaf))) .leaf)) [p0,p1] bl Tryz.func92 (by kernel_rfl) (by kernel_rfl) h


/- loop.example/prologserver/spec.l1Int : function 106 -/
def vI (p0:Value) (w:World) (R:Ending->World->Prop):Prop:=
 RR (sOp (.alloc 36) 0) w fun a b=>
 RR (dn 36 [(0,(.int .i64 2)),(1,p0)]) b fun b c=>
 RR (sOp (.store 36 (.const a) (.const b)) 0) c fun _ b=>
 (bg Tryz.prog 36 a b fun a=>R (.returned a) b)
theorem xO {p0:Value} {w:World} {R:Ending->World->Prop} (h:vI p0 w R):Calls Tryz.prog 106 #[p0] w R:=
  aQ .leaf [p0] bl Tryz.func106 (by kernel_rfl) (by kernel_rfl) h


/- loop.example/prologserver/impl.scan : function 108 -/
def xT (p0 p1 p2:Value) (w:World) (R:Ending->World->Prop):Prop:=
 RR (sOp (.box 36 (.const p0)) 0) w fun a b=>
 RR (sOp (.box 3 (.const p1)) 0) b fun b c=>
 RR (sOp (.box 70 (.const p2)) 0) c fun c d=>
 RR (sOp (.load 70 (.const c)) 70) d fun d e=>
 RR (sOp (.nilCheck (.const d)) 0) e fun e f=>
 RR (sOp (.load 3 (.const e)) 3) f fun e f=>
 RR (aG .add 3 false true e (.int .i64 1)) f fun e f=>
 RR (sOp (.nilCheck (.const d)) 0) f fun d f=>
 RR (sOp (.store 3 (.const d) (.const e)) 0) f fun _ d=>
 (∃ e:Value->World->Prop,(
 RR (sOp (.load 70 (.const c)) 70) d fun a c=>
 RR (sOp (.nilCheck (.const a)) 0) c fun a c=>
 RR (sOp (.load 3 (.const a)) 3) c fun a c=>
 RR (aG .gtr 3 false true a (.int .i64 120)) c fun a c=>
 ak a false (
 RR (sOp (.load 3 (.const b)) 3) c fun b c=>
 RR (aG .gtr 3 false true b (.int .i64 30)) c fun b c=>
 RR (sOp (.pick (.const a) (.const (.bool true)) (.const b)) 4) c fun a b=>
 e a b) (
 RR (sOp (.pick (.const a) (.const (.bool true)) (.const undef)) 4) c fun a b=>
 e a b))/\
 ∀ d _ _ _ _ _ _ _:Value,∀ f:World,e d f->
 CondV d (
 R (.returned (.bool false)) f) (
 RR (sOp (.fieldAddr 36 (.const a) 0) 0) f fun d e=>
 RR (sOp (.load 3 (.const d)) 3) e fun d e=>
 RR (aG .eql 3 false true d (.int .i64 1)) e fun e f=>
 CondV e (
 RR (sOp (.fieldAddr 36 (.const a) 1) 0) f fun b c=>
 RR (sOp (.load 3 (.const b)) 3) c fun b c=>
 RR (aN (.func (.func 64) #[] #[]) [b,(.int .i64 0),(.int .i64 25)]) c fun b c=>
 ((fun d:VW=>ak b true (
 RR (sOp (.fieldAddr 36 (.const a) 2) 0) c fun a c=>
 RR (sOp (.load 9 (.const a)) 9) c fun a c=>
 RR (aG .eql 9 false true a (.string ⟨#[]⟩)) c fun a c=>
 RR (sOp (.pick (.const b) (.const a) (.const (.bool false))) 4) c fun a b=>d a b) (
 RR (sOp (.pick (.const b) (.const undef) (.const (.bool false))) 4) c fun a b=>d a b)) fun b c=>
 ak b true (
 RR (sOp (.fieldAddr 36 (.const a) 3) 0) c fun a c=>
 RR (sOp (.load 34 (.const a)) 34) c fun a c=>
 RR (aM .len #[34] 3 [false] [a]) c fun a c=>
 RR (aG .eql 3 false true a (.int .i64 0)) c fun a c=>
 RR (sOp (.pick (.const b) (.const a) (.const (.bool false))) 4) c fun a b=>
 R (.returned a) b) (
 RR (sOp (.pick (.const b) (.const undef) (.const (.bool false))) 4) c fun a b=>
 R (.returned a) b))) (
 RR (aG .eql 3 false true d (.int .i64 2)) f fun e f=>
 CondV e (
 RR (sOp (.fieldAddr 36 (.const a) 1) 0) f fun b c=>
 RR (sOp (.load 3 (.const b)) 3) c fun b c=>
 RR (aN (.func (.func 64) #[] #[]) [b,(.int .i64 (-999)),(.int .i64 999)]) c fun b c=>
 ((fun d:VW=>ak b true (
 RR (sOp (.fieldAddr 36 (.const a) 2) 0) c fun a c=>
 RR (sOp (.load 9 (.const a)) 9) c fun a c=>
 RR (aG .eql 9 false true a (.string ⟨#[]⟩)) c fun a c=>
 RR (sOp (.pick (.const b) (.const a) (.const (.bool false))) 4) c fun a b=>d a b) (
 RR (sOp (.pick (.const b) (.const undef) (.const (.bool false))) 4) c fun a b=>d a b)) fun b c=>
 ak b true (
 RR (sOp (.fieldAddr 36 (.const a) 3) 0) c fun a c=>
 RR (sOp (.load 34 (.const a)) 34) c fun a c=>
 RR (aM .len #[34] 3 [false] [a]) c fun a c=>
 RR (aG .eql 3 false true a (.int .i64 0)) c fun a c=>
 RR (sOp (.pick (.const b) (.const a) (.const (.bool false))) 4) c fun a b=>
 R (.returned a) b) (
 RR (sOp (.pick (.const b) (.const undef) (.const (.bool false))) 4) c fun a b=>
 R (.returned a) b))) (
 RR (aG .eql 3 false true d (.int .i64 3)) f fun d e=>
 CondV d (
 (∃ d:Value->World->Prop,(
 RR (sOp (.fieldAddr 36 (.const a) 1) 0) e fun b c=>
 RR (sOp (.load 3 (.const b)) 3) c fun b c=>
 RR (aG .neq 3 false true b (.int .i64 0)) c fun b c=>
 ((fun d:VW=>ak b false (
 RR (sOp (.fieldAddr 36 (.const a) 2) 0) c fun a c=>
 RR (sOp (.load 9 (.const a)) 9) c fun a c=>
 RR (aN (.func (.func 141) #[] #[]) [a]) c fun a c=>
 RR (sOp (.unOp .not 4 (.const a)) 4) c fun a c=>
 RR (sOp (.pick (.const b) (.const (.bool true)) (.const a)) 4) c fun a b=>d a b) (
 RR (sOp (.pick (.const b) (.const (.bool true)) (.const undef)) 4) c fun a b=>d a b)) fun b c=>
 ak b false (
 RR (sOp (.fieldAddr 36 (.const a) 3) 0) c fun a c=>
 RR (sOp (.load 34 (.const a)) 34) c fun a c=>
 RR (aM .len #[34] 3 [false] [a]) c fun a c=>
 RR (aG .gtr 3 false true a (.int .i64 4)) c fun a c=>
 RR (sOp (.pick (.const b) (.const (.bool true)) (.const a)) 4) c fun a b=>
 d a b) (
 RR (sOp (.pick (.const b) (.const (.bool true)) (.const undef)) 4) c fun a b=>
 d a b)))/\
 ∀ e _ _ _ _ _ _ _ _ _ _ _ _ _ _:Value,∀ f:World,d e f->
 CondV e (
 R (.returned (.bool false)) f) (
 RR (sOp (.fieldAddr 36 (.const a) 3) 0) f fun a d=>
 RR (sOp (.load 34 (.const a)) 34) d fun a d=>
 RR (gx (.func 142) [] [b,c]) d fun b c=>
 RR (aN (.func (.func 111) #[] #[]) [a,b]) c fun a b=>
 RR (sOp (.unOp .not 4 (.const a)) 4) b fun a b=>
 R (.returned a) b))) (
 R (.returned (.bool false)) e)))))
theorem zy {p0 p1 p2:Value} {w:World} {R:Ending->World->Prop} (h:xT p0 p1 p2 w R):Calls Tryz.prog 108 #[p0,p1,p2] w R:=
  aQ (.seq none .leaf (.seq none .leaf (.seq none (.seq (some [19]) .leaf .leaf) (.seq none (.seq none .leaf (.one (.seq none .leaf (.two .leaf (.seq none .leaf (.two .leaf (.seq none .leaf (.two (.seq none (.seq (some [70]) .leaf .leaf) .leaf) .leaf)))))))) .leaf)))) [p0,p1,p2] bl Tryz.func108 (by kernel_rfl) (by kernel_rfl) h


/- loop.example/prologserver/impl.isLetters : function 109 -/
def lU (p0:Value) (w:World) (R:Ending->World->Prop):Prop:=
 RR (aM .len #[9] 3 [false] [p0]) w fun a b=>
 (∃ (c:Value->World->Prop) (d:Value->World->Nat),c (.int .i64 0) b/\
 ∀ b _ _ _ _ _ _ _ _ _ _ _ _ _ _ _:Value,∀ e:World,c b e->
 RR (aG .lss 3 false false b a) e fun a f=>
 CondV a (
 (∃ a:Value->World->Prop,(
 RR (sOp (.index 9 (.const p0) (.const b)) 5) f fun c d=>
 RR (aG .lss 5 false true c (.int .u8 97)) d fun c d=>
 ak c false (
 RR (sOp (.index 9 (.const p0) (.const b)) 5) d fun b d=>
 RR (aG .gtr 5 false true b (.int .u8 122)) d fun b d=>
 RR (sOp (.pick (.const c) (.const (.bool true)) (.const b)) 4) d fun b c=>
 a b c) (
 RR (sOp (.pick (.const c) (.const (.bool true)) (.const undef)) 4) d fun b c=>
 a b c))/\
 ∀ f _ _ _ _ _ _ _ _ _:Value,∀ g:World,a f g->
 CondV f (
 R (.returned (.bool false)) g) (
 RR (aG .add 3 false true b (.int .i64 1)) g fun a f=>
 c a f/\d a f<d b e))) (
 RR (aM .len #[9] 3 [false] [p0]) f fun a b=>
 RR (aN (.func (.func 64) #[] #[]) [a,(.int .i64 1),(.int .i64 6)]) b fun a b=>
 R (.returned a) b))
theorem qF {p0:Value} {w:World} {R:Ending->World->Prop} (h:lU p0 w R):Calls Tryz.prog 109 #[p0] w R:=
  aQ (.seq none .leaf (.seq none (.seq none .leaf (.one (.loop [6] (.seq none .leaf (.seq none .leaf (.seq none (.one (.seq none .leaf (.seq (some [18]) .leaf .leaf))) .leaf)))))) .leaf)) [p0] bl Tryz.func109 (by kernel_rfl) (by kernel_rfl) h


/- loop.example/prologserver/impl.isOp : function 110 -/
def yt (p0:Value) (w:World) (R:Ending->World->Prop):Prop:=
 RR (aN (.func (.func 143) #[] #[]) [p0]) w fun a b=>
 RR (sOp (.extract (.const a) 0) 3) b fun b c=>
 RR (sOp (.extract (.const a) 1) 4) c fun _ a=>
 RR (aG .gtr 3 false true b (.int .i64 0)) a fun a b=>
 R (.returned a) b
theorem zD {p0:Value} {w:World} {R:Ending->World->Prop} (h:yt p0 w R):Calls Tryz.prog 110 #[p0] w R:=
  aQ .leaf [p0] bl Tryz.func110 (by kernel_rfl) (by kernel_rfl) h


/- slices.ContainsFunc[[]loop.example/prologserver/impl.Term,loop.example/prologserver/impl.Term] : function 111 -/
def ej (p0 p1:Value) (w:World) (R:Ending->World->Prop):Prop:=
 RR (aN (.func (.func 144) #[] #[]) [p0,p1]) w fun a b=>
 RR (aG .geq 3 false true a (.int .i64 0)) b fun a b=>
 R (.returned a) b
theorem fa {p0 p1:Value} {w:World} {R:Ending->World->Prop} (h:ej p0 p1 w R):Calls Tryz.prog 111 #[p0,p1] w R:=
  aQ .leaf [p0,p1] bl Tryz.func111 (by kernel_rfl) (by kernel_rfl) h


/- loop.example/prologserver/impl.goalsValid$1 : function 112 -/
def iQ (p0:Value) (w:World) (R:Ending->World->Prop):Prop:=
 RR (sOp (.box 36 (.const p0)) 0) w fun a b=>
 RR (sOp (.load 36 (.const a)) 36) b fun a b=>
 RR (aN (.func (.func 63) #[] #[]) [a]) b fun a b=>
 RR (sOp (.unOp .not 4 (.const a)) 4) b fun a b=>
 R (.returned a) b
theorem l4 {p0:Value} {w:World} {R:Ending->World->Prop} (h:iQ p0 w R):Calls Tryz.prog 112 #[p0] w R:=
  aQ .leaf [p0] bl Tryz.func112 (by kernel_rfl) (by kernel_rfl) h


/- loop.example/prologserver/spec.l4Goal : function 113 -/
def rX (p0:Value) (w:World) (R:Ending->World->Prop):Prop:=
 RR (sOp (.box 36 (.const p0)) 0) w fun a b=>
 RR (sOp (.load 36 (.const a)) 36) b fun b c=>
 RR (aN (.func (.func 85) #[] #[]) [b]) c fun b c=>
 ((fun d:VW=>ak b false (
 RR (sOp (.load 36 (.const a)) 36) c fun a c=>
 RR (aN (.func (.func 81) #[] #[]) [a]) c fun a c=>
 RR (sOp (.pick (.const b) (.const (.bool true)) (.const a)) 4) c fun a b=>d a b) (
 RR (sOp (.pick (.const b) (.const (.bool true)) (.const undef)) 4) c fun a b=>d a b)) fun b c=>
 ak b false (
 RR (sOp (.fieldAddr 36 (.const a) 0) 0) c fun c d=>
 RR (sOp (.load 3 (.const c)) 3) d fun c d=>
 RR (aG .eql 3 false true c (.int .i64 3)) d fun c d=>
 ak c true (
 RR (sOp (.fieldAddr 36 (.const a) 2) 0) d fun d e=>
 RR (sOp (.load 9 (.const d)) 9) e fun d e=>
 RR (sOp (.fieldAddr 36 (.const a) 3) 0) e fun a e=>
 RR (sOp (.load 34 (.const a)) 34) e fun a e=>
 RR (aM .len #[34] 3 [false] [a]) e fun a e=>
 RR (aN (.func (.func 82) #[] #[]) [d,a]) e fun a d=>
 ak b false (
 RR (sOp (.pick (.const c) (.const a) (.const (.bool false))) 4) d fun a c=>
 RR (sOp (.pick (.const b) (.const (.bool true)) (.const a)) 4) c fun a b=>
 R (.returned a) b) (
 RR (sOp (.pick (.const b) (.const (.bool true)) (.const undef)) 4) d fun a b=>
 R (.returned a) b)) (
 ak b false (
 RR (sOp (.pick (.const c) (.const undef) (.const (.bool false))) 4) d fun a c=>
 RR (sOp (.pick (.const b) (.const (.bool true)) (.const a)) 4) c fun a b=>
 R (.returned a) b) (
 RR (sOp (.pick (.const b) (.const (.bool true)) (.const undef)) 4) d fun a b=>
 R (.returned a) b))) (
 ak undef true (
 RR (sOp (.fieldAddr 36 (.const a) 2) 0) c fun c d=>
 RR (sOp (.load 9 (.const c)) 9) d fun c d=>
 RR (sOp (.fieldAddr 36 (.const a) 3) 0) d fun a d=>
 RR (sOp (.load 34 (.const a)) 34) d fun a d=>
 RR (aM .len #[34] 3 [false] [a]) d fun a d=>
 RR (aN (.func (.func 82) #[] #[]) [c,a]) d fun a c=>
 ak b false (
 RR (sOp (.pick (.const undef) (.const a) (.const (.bool false))) 4) c fun a c=>
 RR (sOp (.pick (.const b) (.const (.bool true)) (.const a)) 4) c fun a b=>
 R (.returned a) b) (
 RR (sOp (.pick (.const b) (.const (.bool true)) (.const undef)) 4) c fun a b=>
 R (.returned a) b)) (
 ak b false (
 RR (sOp (.pick (.const undef) (.const undef) (.const (.bool false))) 4) c fun a c=>
 RR (sOp (.pick (.const b) (.const (.bool true)) (.const a)) 4) c fun a b=>
 R (.returned a) b) (
 RR (sOp (.pick (.const b) (.const (.bool true)) (.const undef)) 4) c fun a b=>
 R (.returned a) b))))
theorem wm {p0:Value} {w:World} {R:Ending->World->Prop} (h:rX p0 w R):Calls Tryz.prog 113 #[p0] w R:=
  aQ .leaf [p0] bl Tryz.func113 (by kernel_rfl) (by kernel_rfl) h


/- loop.example/prologserver/spec.l1Shape : function 114 -/
def qH (p0 p1:Value) (w:World) (R:Ending->World->Prop):Prop:=
 RR (sOp (.box 36 (.const p0)) 0) w fun a b=>
 (∃ c:Value->World->Prop,(
 RR (aG .lss 3 false true p1 (.int .i64 1)) b fun b d=>
 ak b false (
 RR (sOp (.load 36 (.const a)) 36) d fun a d=>
 RR (aN (.func (.func 145) #[] #[]) [a]) d fun a d=>
 RR (sOp (.unOp .not 4 (.const a)) 4) d fun a d=>
 RR (sOp (.pick (.const b) (.const (.bool true)) (.const a)) 4) d fun a b=>
 c a b) (
 RR (sOp (.pick (.const b) (.const (.bool true)) (.const undef)) 4) d fun a b=>
 c a b))/\
 ∀ b _ _ _ _ _ _:Value,∀ d:World,c b d->
 CondV b (
 R (.returned (.bool false)) d) (
 (∃ (b:Value->World->Prop) (c:Value->World->Nat),b (.int .i64 0) d/\
 ∀ d _ _ _ _ _ _ _ _ _ _ _ _ _ _ _ _ _:Value,∀ e:World,b d e->
 RR (sOp (.fieldAddr 36 (.const a) 3) 0) e fun f g=>
 RR (sOp (.load 34 (.const f)) 34) g fun f g=>
 RR (aM .len #[34] 3 [false] [f]) g fun f g=>
 RR (aG .lss 3 false false d f) g fun f g=>
 CondV f (
 RR (sOp (.fieldAddr 36 (.const a) 3) 0) g fun a f=>
 RR (sOp (.load 34 (.const a)) 34) f fun a f=>
 RR (sOp (.indexAddr 34 (.const a) (.const d)) 0) f fun a f=>
 RR (sOp (.load 36 (.const a)) 36) f fun a f=>
 RR (aG .sub 3 false true p1 (.int .i64 1)) f fun f g=>
 RR (aN (.func (.func 114) #[] #[]) [a,f]) g fun a f=>
 RR (sOp (.unOp .not 4 (.const a)) 4) f fun a f=>
 CondV a (
 R (.returned (.bool false)) f) (
 RR (aG .add 3 false true d (.int .i64 1)) f fun a f=>
 b a f/\c a f<c d e)) (
 R (.returned (.bool true)) g))))
theorem sY {p0 p1:Value} {w:World} {R:Ending->World->Prop} (h:qH p0 p1 w R):Calls Tryz.prog 114 #[p0,p1] w R:=
  aQ (.seq none .leaf (.seq none (.seq (some [12]) .leaf .leaf) (.seq none (.seq none .leaf (.one (.loop [5] .leaf))) .leaf))) [p0,p1] bl Tryz.func114 (by kernel_rfl) (by kernel_rfl) h


/- loop.example/prologserver/spec.l1Count : function 115 -/
def pz (p0 p1:Value) (w:World) (R:Ending->World->Prop):Prop:=
 RR (sOp (.box 36 (.const p0)) 0) w fun a b=>
 (∃ (c:Value->Value->World->Prop) (d:Value->Value->World->Nat),c (.int .i64 0) (.int .i64 1) b/\
 ∀ b _ _ e _ _ _ _ _ _ _ _ _ _ _ _ _ _ _ _ _ _ _ _ _:Value,∀ f:World,c b e f->
 (∃ g:Value->World->Prop,(
 RR (sOp (.fieldAddr 36 (.const a) 3) 0) f fun a c=>
 RR (sOp (.load 34 (.const a)) 34) c fun a c=>
 RR (aM .len #[34] 3 [false] [a]) c fun a c=>
 RR (aG .lss 3 false false b a) c fun a b=>
 ak a true (
 RR (aG .leq 3 false false e p1) b fun b c=>
 RR (sOp (.pick (.const a) (.const b) (.const (.bool false))) 4) c fun a b=>
 g a b) (
 RR (sOp (.pick (.const a) (.const undef) (.const (.bool false))) 4) b fun a b=>
 g a b))/\
 ∀ h _ _ _ _ _ _ _ _ _:Value,∀ i:World,g h i->
 CondV h (
 RR (sOp (.fieldAddr 36 (.const a) 3) 0) i fun a g=>
 RR (sOp (.load 34 (.const a)) 34) g fun a g=>
 RR (sOp (.indexAddr 34 (.const a) (.const b)) 0) g fun a g=>
 RR (sOp (.load 36 (.const a)) 36) g fun a g=>
 RR (aG .sub 3 false false p1 e) g fun g h=>
 RR (aN (.func (.func 115) #[] #[]) [a,g]) h fun a g=>
 RR (aG .add 3 false false e a) g fun a g=>
 RR (aG .add 3 false true b (.int .i64 1)) g fun g h=>
 c g a h/\d g a h<d b e f) (
 R (.returned e) i)))
theorem ub {p0 p1:Value} {w:World} {R:Ending->World->Prop} (h:pz p0 p1 w R):Calls Tryz.prog 115 #[p0,p1] w R:=
  aQ (.seq none .leaf (.seq none .leaf (.seq none (.seq none .leaf (.one (.loop [6,5] (.seq none (.seq (some [16]) .leaf .leaf) .leaf)))) .leaf))) [p0,p1] bl Tryz.func115 (by kernel_rfl) (by kernel_rfl) h


/- loop.example/prologserver/spec.l1Word : function 116 -/
def rY (p0:Value) (w:World) (R:Ending->World->Prop):Prop:=
 (∃ (a:Value->World->Prop) (b:Value->World->Nat),a (.int .i64 0) w/\
 ∀ c _ _ _ _ _ _ _ _ _ _ _ _ _ _ _ _ _:Value,∀ d:World,a c d->
 RR (aM .len #[9] 3 [false] [p0]) d fun e f=>
 RR (aG .lss 3 false false c e) f fun e f=>
 CondV e (
 (∃ e:Value->World->Prop,(
 RR (sOp (.index 9 (.const p0) (.const c)) 5) f fun a b=>
 RR (aG .lss 5 false true a (.int .u8 97)) b fun a b=>
 ak a false (
 RR (sOp (.index 9 (.const p0) (.const c)) 5) b fun b c=>
 RR (aG .gtr 5 false true b (.int .u8 122)) c fun b c=>
 RR (sOp (.pick (.const a) (.const (.bool true)) (.const b)) 4) c fun a b=>
 e a b) (
 RR (sOp (.pick (.const a) (.const (.bool true)) (.const undef)) 4) b fun a b=>
 e a b))/\
 ∀ f _ _ _ _ _ _ _ _ _:Value,∀ g:World,e f g->
 CondV f (
 R (.returned (.bool false)) g) (
 RR (aG .add 3 false true c (.int .i64 1)) g fun e f=>
 a e f/\b e f<b c d))) (
 RR (aM .len #[9] 3 [false] [p0]) f fun a b=>
 RR (aG .geq 3 false true a (.int .i64 1)) b fun a b=>
 ak a true (
 RR (aM .len #[9] 3 [false] [p0]) b fun b c=>
 RR (aG .leq 3 false true b (.int .i64 6)) c fun b c=>
 RR (sOp (.pick (.const a) (.const b) (.const (.bool false))) 4) c fun a b=>
 R (.returned a) b) (
 RR (sOp (.pick (.const a) (.const undef) (.const (.bool false))) 4) b fun a b=>
 R (.returned a) b)))
theorem uy {p0:Value} {w:World} {R:Ending->World->Prop} (h:rY p0 w R):Calls Tryz.prog 116 #[p0] w R:=
  aQ (.seq none .leaf (.seq none (.seq none .leaf (.one (.loop [3] (.seq none .leaf (.seq none (.one (.seq (some [19]) .leaf .leaf)) .leaf))))) .leaf)) [p0] bl Tryz.func116 (by kernel_rfl) (by kernel_rfl) h


/- loop.example/prologserver/spec.l2Level : function 117 -/
def pB (p0:Value) (w:World) (R:Ending->World->Prop):Prop:=
 (∃ a:Value->World->Prop,(
 RR (aG .eql 9 false true p0 (.string ⟨#[61]⟩)) w fun b c=>
 CondV b (
 a b c) (
 RR (aG .eql 9 false true p0 (.string ⟨#[92,61]⟩)) c fun b c=>
 CondV b (
 a b c) (
 RR (aG .eql 9 false true p0 (.string ⟨#[61,61]⟩)) c fun b c=>
 CondV b (
 a b c) (
 RR (aG .eql 9 false true p0 (.string ⟨#[60]⟩)) c fun b c=>
 CondV b (
 a b c) (
 RR (aG .eql 9 false true p0 (.string ⟨#[62]⟩)) c fun b c=>
 CondV b (
 a b c) (
 RR (aG .eql 9 false true p0 (.string ⟨#[61,60]⟩)) c fun b c=>
 CondV b (
 a b c) (
 RR (aG .eql 9 false true p0 (.string ⟨#[62,61]⟩)) c fun b c=>
 CondV b (
 a b c) (
 RR (aG .eql 9 false true p0 (.string ⟨#[61,58,61]⟩)) c fun b c=>
 CondV b (
 a b c) (
 RR (aG .eql 9 false true p0 (.string ⟨#[105,115]⟩)) c fun b c=>
 a b c)))))))))/\
 ∀ _ _ _ _ _ _ _ _ b _:Value,∀ c:World,a b c->
 CondV b (
 R (.returned (.int .i64 3)) c) (
 (∃ a:Value->World->Prop,(
 RR (aG .eql 9 false true p0 (.string ⟨#[43]⟩)) c fun b c=>
 CondV b (
 a b c) (
 RR (aG .eql 9 false true p0 (.string ⟨#[45]⟩)) c fun b c=>
 a b c))/\
 ∀ _ b _:Value,∀ c:World,a b c->
 CondV b (
 R (.returned (.int .i64 2)) c) (
 (∃ a:Value->World->Prop,(
 RR (aG .eql 9 false true p0 (.string ⟨#[42]⟩)) c fun b c=>
 CondV b (
 a b c) (
 RR (aG .eql 9 false true p0 (.string ⟨#[47,47]⟩)) c fun b c=>
 CondV b (
 a b c) (
 RR (aG .eql 9 false true p0 (.string ⟨#[109,111,100]⟩)) c fun b c=>
 a b c)))/\
 ∀ _ _ b _:Value,∀ c:World,a b c->
 CondV b (
 R (.returned (.int .i64 1)) c) (
 R (.returned (.int .i64 0)) c))))))
theorem tx {p0:Value} {w:World} {R:Ending->World->Prop} (h:pB p0 w R):Calls Tryz.prog 117 #[p0] w R:=
  aQ (.seq none .leaf (.seq none (.seq none .leaf (.one (.seq (some [4]) .leaf (.two .leaf (.seq (some [14]) .leaf (.two .leaf (.seq (some [17]) .leaf .leaf))))))) .leaf)) [p0] bl Tryz.func117 (by kernel_rfl) (by kernel_rfl) h


/- loop.example/prologserver/spec.CallBuiltin : function 118 -/
def ke (p0:Value) (w:World) (R:Ending->World->Prop):Prop:=
 RR (sOp (.box 36 (.const p0)) 0) w fun a b=>
 RR (bB 88 0 []) b fun b c=>
 (∃ d:Value->World->Prop,(
 RR (sOp (.load 36 (.const a)) 36) c fun b c=>
 RR (aN (.func (.func 80) #[] #[]) [b]) c fun b c=>
 RR (sOp (.unOp .not 4 (.const b)) 4) c fun b c=>
 ((fun d:VW=>ak b false (
 RR (sOp (.fieldAddr 36 (.const a) 0) 0) c fun a c=>
 RR (sOp (.load 3 (.const a)) 3) c fun a c=>
 RR (aG .neq 3 false true a (.int .i64 3)) c fun a c=>
 RR (sOp (.pick (.const b) (.const (.bool true)) (.const a)) 4) c fun a b=>d a b) (
 RR (sOp (.pick (.const b) (.const (.bool true)) (.const undef)) 4) c fun a b=>d a b)) fun b c=>
 ak b false (
 RR (sOp (.fieldAddr 36 (.const a) 2) 0) c fun c e=>
 RR (sOp (.load 9 (.const c)) 9) e fun c e=>
 RR (sOp (.fieldAddr 36 (.const a) 3) 0) e fun a e=>
 RR (sOp (.load 34 (.const a)) 34) e fun a e=>
 RR (aM .len #[34] 3 [false] [a]) e fun a e=>
 RR (aN (.func (.func 82) #[] #[]) [c,a]) e fun a c=>
 RR (sOp (.unOp .not 4 (.const a)) 4) c fun a c=>
 RR (sOp (.pick (.const b) (.const (.bool true)) (.const a)) 4) c fun a b=>
 d a b) (
 RR (sOp (.pick (.const b) (.const (.bool true)) (.const undef)) 4) c fun a b=>
 d a b)))/\
 ∀ c _ _ _ _ _ _ _ _ _ _ _ _ _ _ _ _:Value,∀ e:World,d c e->
 CondV c (
 R (.returned (.tuple #[b,(.int .i64 6)])) e) (
 RR (sOp (.makeSlice 34 (.const (.int .i64 26)) (.const (.int .i64 26))) 34) e fun c d=>
 RR (sOp (.load 36 (.const a)) 36) d fun a d=>
 RR (aN (.func (.func 138) #[] #[]) [a,c]) d fun a d=>
 RR (aG .neq 3 false true a (.int .i64 0)) d fun d e=>
 CondV d (
 R (.returned (.tuple #[b,a])) e) (
 RR (bB 88 0 []) e fun d e=>
 (∃ (f:Value->Value->World->Prop) (g:Value->Value->World->Nat),f (.int .i64 0) d e/\
 ∀ d _ _ e _ _ _ _ _ _ _ _ _ _ _ _ _ _ _ _ _ _ _ _ _ _ _ _ _ _ _ _ _ _ _ _ _ _ _ _ _:Value,∀ h:World,f d e h->
 RR (aM .len #[34] 3 [false] [c]) h fun i j=>
 RR (aG .lss 3 false false d i) j fun i j=>
 CondV i (
 (∃ a:Value->World->Prop,(
 RR (sOp (.indexAddr 34 (.const c) (.const d)) 0) j fun f g=>
 RR (sOp (.fieldAddr 36 (.const f) 0) 0) g fun f g=>
 RR (sOp (.load 3 (.const f)) 3) g fun f g=>
 RR (aG .eql 3 false true f (.int .i64 0)) g fun f g=>
 CondV f (
 a e g) (
 RR (sOp (.indexAddr 34 (.const c) (.const d)) 0) g fun f g=>
 RR (sOp (.load 36 (.const f)) 36) g fun f g=>
 RR (aN (.func (.func 146) #[] #[]) [f,c,(.int .i64 120)]) g fun c f=>
 RR (sOp (.extract (.const c) 0) 36) f fun f g=>
 RR (sOp (.extract (.const c) 1) 3) g fun c g=>
 RR (sOp (.alloc 36) 0) g fun g h=>
 RR (sOp (.store 36 (.const g) (.const f)) 0) h fun _ f=>
 (∃ h:Value->World->Prop,(
 RR (aG .lss 3 false true c (.int .i64 0)) f fun a b=>
 ak a false (
 RR (sOp (.load 36 (.const g)) 36) b fun b c=>
 RR (aN (.func (.func 80) #[] #[]) [b]) c fun b c=>
 RR (sOp (.unOp .not 4 (.const b)) 4) c fun b c=>
 RR (sOp (.pick (.const a) (.const (.bool true)) (.const b)) 4) c fun a b=>
 h a b) (
 RR (sOp (.pick (.const a) (.const (.bool true)) (.const undef)) 4) b fun a b=>
 h a b))/\
 ∀ c _ _ _ _ _ _:Value,∀ f:World,h c f->
 CondV c (
 R (.returned (.tuple #[b,(.int .i64 5)])) f) (
 RR (sOp (.load 36 (.const g)) 36) f fun b c=>
 RR (dn 162 [(0,d),(1,b)]) c fun b c=>
 RR (bB 88 1 [(0,b)]) c fun b c=>
 RR (aM .append #[88,88] 88 [false,false] [e,b]) c fun b c=>
 a b c))))/\
 ∀ b _ _ _ _ _ _ _ _ _ _ _ _ _ _ _ _ _ _ _ _ _ _ _ _ _ _ _ _ _ _ _ _ _:Value,∀ c:World,a b c->
 RR (aG .add 3 false true d (.int .i64 1)) c fun a c=>
 f a b c/\g a b c<g d e h)) (
 R (.returned (.tuple #[e,a])) j)))))
theorem m9 {p0:Value} {w:World} {R:Ending->World->Prop} (h:ke p0 w R):Calls Tryz.prog 118 #[p0] w R:=
  aQ (.seq none .leaf (.seq none .leaf (.seq none (.seq (some [28]) .leaf .leaf) (.seq none .leaf (.seq none .leaf (.seq none .leaf (.seq none .leaf (.seq none (.seq none .leaf (.one (.loop [8,7] (.seq none .leaf (.seq (some [7]) (.one (.seq none .leaf (.seq none .leaf (.seq none (.seq (some [66]) .leaf .leaf) .leaf)))) .leaf))))) .leaf)))))))) [p0] bl Tryz.func118 (by kernel_rfl) (by kernel_rfl) h


/- loop.example/prologserver/spec.TermSame : function 119 -/
def nq (p0 p1:Value) (w:World) (R:Ending->World->Prop):Prop:=
 RR (sOp (.box 36 (.const p0)) 0) w fun a b=>
 RR (sOp (.box 36 (.const p1)) 0) b fun b c=>
 (∃ d:Value->World->Prop,(
 RR (sOp (.fieldAddr 36 (.const a) 0) 0) c fun c e=>
 RR (sOp (.load 3 (.const c)) 3) e fun c e=>
 RR (sOp (.fieldAddr 36 (.const b) 0) 0) e fun e f=>
 RR (sOp (.load 3 (.const e)) 3) f fun e f=>
 RR (aG .neq 3 false false c e) f fun c e=>
 ((fun d:VW=>ak c false (
 RR (sOp (.fieldAddr 36 (.const a) 1) 0) e fun a e=>
 RR (sOp (.load 3 (.const a)) 3) e fun a e=>
 RR (sOp (.fieldAddr 36 (.const b) 1) 0) e fun b e=>
 RR (sOp (.load 3 (.const b)) 3) e fun b e=>
 RR (aG .neq 3 false false a b) e fun a b=>
 RR (sOp (.pick (.const c) (.const (.bool true)) (.const a)) 4) b fun a b=>d a b) (
 RR (sOp (.pick (.const c) (.const (.bool true)) (.const undef)) 4) e fun a b=>d a b)) fun c e=>
 ((fun d:VW=>ak c false (
 RR (sOp (.fieldAddr 36 (.const a) 2) 0) e fun a e=>
 RR (sOp (.load 9 (.const a)) 9) e fun a e=>
 RR (sOp (.fieldAddr 36 (.const b) 2) 0) e fun b e=>
 RR (sOp (.load 9 (.const b)) 9) e fun b e=>
 RR (aG .neq 9 false false a b) e fun a b=>
 RR (sOp (.pick (.const c) (.const (.bool true)) (.const a)) 4) b fun a b=>d a b) (
 RR (sOp (.pick (.const c) (.const (.bool true)) (.const undef)) 4) e fun a b=>d a b)) fun c e=>
 ak c false (
 RR (sOp (.fieldAddr 36 (.const a) 3) 0) e fun a e=>
 RR (sOp (.load 34 (.const a)) 34) e fun a e=>
 RR (aM .len #[34] 3 [false] [a]) e fun a e=>
 RR (sOp (.fieldAddr 36 (.const b) 3) 0) e fun b e=>
 RR (sOp (.load 34 (.const b)) 34) e fun b e=>
 RR (aM .len #[34] 3 [false] [b]) e fun b e=>
 RR (aG .neq 3 false false a b) e fun a b=>
 RR (sOp (.pick (.const c) (.const (.bool true)) (.const a)) 4) b fun a b=>
 d a b) (
 RR (sOp (.pick (.const c) (.const (.bool true)) (.const undef)) 4) e fun a b=>
 d a b))))/\
 ∀ c _ _ _ _ _ _ _ _ _ _ _ _ _ _ _ _ _ _ _ _ _ _ _ _ _ _ _:Value,∀ e:World,d c e->
 CondV c (
 R (.returned (.bool false)) e) (
 (∃ (c:Value->World->Prop) (d:Value->World->Nat),c (.int .i64 0) e/\
 ∀ e _ _ _ f g h i j k l m n o p q _ _ _ _ _:Value,∀ r:World,c e r->
 RR (sOp (.fieldAddr 36 (.const a) 3) 0) r fun s t=>
 RR (sOp (.load 34 (.const s)) 34) t fun s t=>
 RR (aM .len #[34] 3 [false] [s]) t fun s t=>
 RR (aG .lss 3 false false e s) t fun s t=>
 CondV s (
 (∃ s:(Nat->Bool)->Value->Value->Value->Value->Value->Value->Value->Value->Value->Value->Value->Value->World->Prop,s (fun _=>false) f g h i j k l m n o p q { t with drawn:=t.drawn+1 }/\(
 (∀ b:Nat->Bool,b 0=false->∀ c d e f g h i j k l m n o,s b c d e f g h i j k l m n o->
 RR (sOp (.fieldAddr 36 (.const a) 3) 0) o fun a n=>
 s (aD b 0) c d e f g h i j k l m a n)/\
 (∀ a:Nat->Bool,a 1=false->a 0=true->∀ b c d e f g h i j k l m n,s a b c d e f g h i j k l m n->
 RR (sOp (.load 34 (.const m)) 34) n fun l n=>
 s (aD a 1) b c d e f g h i j k l m n)/\
 (∀ a:Nat->Bool,a 2=false->∀ b c d f g h i j k l m n o,s a b c d f g h i j k l m n o->
 s (aD a 2) b c d f g h i j k e m n o)/\
 (∀ a:Nat->Bool,a 3=false->a 1=true->a 2=true->∀ b c d e f g h i j k l m n,s a b c d e f g h i j k l m n->
 RR (sOp (.indexAddr 34 (.const l) (.const k)) 0) n fun j n=>
 s (aD a 3) b c d e f g h i j k l m n)/\
 (∀ a:Nat->Bool,a 4=false->a 3=true->∀ b c d e f g h i j k l m n,s a b c d e f g h i j k l m n->
 RR (sOp (.load 36 (.const j)) 36) n fun i n=>
 s (aD a 4) b c d e f g h i j k l m n)/\
 (∀ a:Nat->Bool,a 5=false->∀ c d e f g h i j k l m n o,s a c d e f g h i j k l m n o->
 RR (sOp (.fieldAddr 36 (.const b) 3) 0) o fun b i=>
 s (aD a 5) c d e f g h b j k l m n i)/\
 (∀ a:Nat->Bool,a 6=false->a 5=true->∀ b c d e f g h i j k l m n,s a b c d e f g h i j k l m n->
 RR (sOp (.load 34 (.const h)) 34) n fun g n=>
 s (aD a 6) b c d e f g h i j k l m n)/\
 (∀ a:Nat->Bool,a 7=false->∀ b c d f g h i j k l m n o,s a b c d f g h i j k l m n o->
 s (aD a 7) b c d f e h i j k l m n o)/\
 (∀ a:Nat->Bool,a 8=false->a 6=true->a 7=true->∀ b c d e f g h i j k l m n,s a b c d e f g h i j k l m n->
 RR (sOp (.indexAddr 34 (.const g) (.const f)) 0) n fun e n=>
 s (aD a 8) b c d e f g h i j k l m n)/\
 (∀ a:Nat->Bool,a 9=false->a 8=true->∀ b c d e f g h i j k l m n,s a b c d e f g h i j k l m n->
 RR (sOp (.load 36 (.const e)) 36) n fun d n=>
 s (aD a 9) b c d e f g h i j k l m n)/\
 (∀ a:Nat->Bool,a 10=false->a 4=true->a 9=true->∀ b c d e f g h i j k l m n,s a b c d e f g h i j k l m n->
 RR (aN (.func (.func 119) #[] #[]) [i,d]) n fun c n=>
 s (aD a 10) b c d e f g h i j k l m n)/\
 (∀ a:Nat->Bool,a 11=false->a 10=true->∀ b c d e f g h i j k l m n,s a b c d e f g h i j k l m n->
 RR (sOp (.unOp .not 4 (.const c)) 4) n fun b n=>
 s (aD a 11) b c d e f g h i j k l m n)/\
 True)/\
 ∀ a:Nat->Bool,a 11=true->a 10=true->a 9=true->a 8=true->a 7=true->a 6=true->a 5=true->a 4=true->a 3=true->a 2=true->a 1=true->a 0=true->∀ b f g h i j k l m n o p q,s a b f g h i j k l m n o p q->
 CondV b (
 R (.returned (.bool false)) q) (
 RR (aG .add 3 false true e (.int .i64 1)) q fun a b=>
 c a b/\d a b<d e r))) (
 R (.returned (.bool true)) t))))
theorem rN {p0 p1:Value} {w:World} {R:Ending->World->Prop} (h:nq p0 p1 w R):Calls Tryz.prog 119 #[p0,p1] w R:=
  aQ (.seq none .leaf (.seq none (.seq (some [33]) .leaf .leaf) (.seq none (.seq none .leaf (.one (.loop [5] .leaf))) .leaf))) [p0,p1] bl Tryz.func119 (by kernel_rfl) (by kernel_rfl) h


/- loop.example/prologserver/impl.compares : function 120 -/
def np (p0:Value) (w:World) (R:Ending->World->Prop):Prop:=
 RR (sOp (.box 36 (.const p0)) 0) w fun a b=>
 RR (sOp (.fieldAddr 36 (.const a) 0) 0) b fun b c=>
 RR (sOp (.load 3 (.const b)) 3) c fun b c=>
 RR (aG .eql 3 false true b (.int .i64 3)) c fun b c=>
 ((fun d:VW=>ak b true (
 RR (sOp (.fieldAddr 36 (.const a) 3) 0) c fun a c=>
 RR (sOp (.load 34 (.const a)) 34) c fun a c=>
 RR (aM .len #[34] 3 [false] [a]) c fun a c=>
 RR (aG .eql 3 false true a (.int .i64 2)) c fun a c=>
 RR (sOp (.pick (.const b) (.const a) (.const (.bool false))) 4) c fun a b=>d a b) (
 RR (sOp (.pick (.const b) (.const undef) (.const (.bool false))) 4) c fun a b=>d a b)) fun b c=>
 ak b true (
 RR (bB 120 5 [(0,(.string ⟨#[60]⟩)),(1,(.string ⟨#[62]⟩)),(2,(.string ⟨#[61,60]⟩)),(3,(.string ⟨#[62,61]⟩)),(4,(.string ⟨#[61,58,61]⟩))]) c fun c d=>
 RR (sOp (.fieldAddr 36 (.const a) 2) 0) d fun a d=>
 RR (sOp (.load 9 (.const a)) 9) d fun a d=>
 RR (aN (.func (.func 147) #[] #[]) [c,a]) d fun a c=>
 RR (sOp (.pick (.const b) (.const a) (.const (.bool false))) 4) c fun a b=>
 R (.returned a) b) (
 RR (sOp (.pick (.const b) (.const undef) (.const (.bool false))) 4) c fun a b=>
 R (.returned a) b))
theorem q6 {p0:Value} {w:World} {R:Ending->World->Prop} (h:np p0 w R):Calls Tryz.prog 120 #[p0] w R:=
  aQ .leaf [p0] bl Tryz.func120 (by kernel_rfl) (by kernel_rfl) h


/- loop.example/prologserver/impl.compared : function 121 -/
def nk (p0:Value) (w:World) (R:Ending->World->Prop):Prop:=
 RR (sOp (.box 36 (.const p0)) 0) w fun a b=>
 RR (sOp (.fieldAddr 36 (.const a) 3) 0) b fun b c=>
 RR (sOp (.load 34 (.const b)) 34) c fun b c=>
 RR (sOp (.indexAddr 34 (.const b) (.const (.int .i64 0))) 0) c fun b c=>
 RR (sOp (.load 36 (.const b)) 36) c fun b c=>
 RR (aN (.func (.func 125) #[] #[]) [b]) c fun b c=>
 RR (sOp (.extract (.const b) 0) 3) c fun c d=>
 RR (sOp (.extract (.const b) 1) 3) d fun b d=>
 RR (aG .neq 3 false true b (.int .i64 0)) d fun d e=>
 CondV d (
 R (.returned b) e) (
 RR (sOp (.fieldAddr 36 (.const a) 3) 0) e fun b d=>
 RR (sOp (.load 34 (.const b)) 34) d fun b d=>
 RR (sOp (.indexAddr 34 (.const b) (.const (.int .i64 1))) 0) d fun b d=>
 RR (sOp (.load 36 (.const b)) 36) d fun b d=>
 RR (aN (.func (.func 125) #[] #[]) [b]) d fun b d=>
 RR (sOp (.extract (.const b) 0) 3) d fun d e=>
 RR (sOp (.extract (.const b) 1) 3) e fun b e=>
 RR (aG .neq 3 false true b (.int .i64 0)) e fun e f=>
 CondV e (
 R (.returned b) f) (
 RR (sOp (.fieldAddr 36 (.const a) 2) 0) f fun a b=>
 RR (sOp (.load 9 (.const a)) 9) b fun a b=>
 RR (aG .eql 9 false true a (.string ⟨#[60]⟩)) b fun b e=>
 CondV b (
 RR (aG .lss 3 false false c d) e fun a b=>
 RR (aN (.func (.func 122) #[] #[]) [a]) b fun a b=>
 R (.returned a) b) (
 RR (aG .eql 9 false true a (.string ⟨#[62]⟩)) e fun b e=>
 CondV b (
 RR (aG .gtr 3 false false c d) e fun a b=>
 RR (aN (.func (.func 122) #[] #[]) [a]) b fun a b=>
 R (.returned a) b) (
 RR (aG .eql 9 false true a (.string ⟨#[61,60]⟩)) e fun b e=>
 CondV b (
 RR (aG .leq 3 false false c d) e fun a b=>
 RR (aN (.func (.func 122) #[] #[]) [a]) b fun a b=>
 R (.returned a) b) (
 RR (aG .eql 9 false true a (.string ⟨#[62,61]⟩)) e fun a b=>
 CondV a (
 RR (aG .geq 3 false false c d) b fun a b=>
 RR (aN (.func (.func 122) #[] #[]) [a]) b fun a b=>
 R (.returned a) b) (
 RR (aG .eql 3 false false c d) b fun a b=>
 RR (aN (.func (.func 122) #[] #[]) [a]) b fun a b=>
 R (.returned a) b))))))
theorem rU {p0:Value} {w:World} {R:Ending->World->Prop} (h:nk p0 w R):Calls Tryz.prog 121 #[p0] w R:=
  aQ .leaf [p0] bl Tryz.func121 (by kernel_rfl) (by kernel_rfl) h


/- loop.example/prologserver/impl.holds : function 122 -/
def sh_i_holds (p0:Value) (w:World) (R:Ending->World->Prop):Prop:=
 CondV p0 (
 R (.returned (.int .i64 0)) w) (
 R (.returned (.int .i64 1)) w)
theorem calls_i_holds {p0:Value} {w:World} {R:Ending->World->Prop} (h:sh_i_holds p0 w R):Calls Tryz.prog 122 #[p0] w R:=
  aQ .leaf [p0] bl Tryz.func122 (by kernel_rfl) (by kernel_rfl) h


/- (*loop.example/prologserver/impl.store).unify : function 123 -/
def jK (p0 p1 p2:Value) (w:World) (R:Ending->World->Prop):Prop:=
 RR (sOp (.box 36 (.const p1)) 0) w fun a b=>
 RR (sOp (.box 36 (.const p2)) 0) b fun b c=>
 (∃ d:(Nat->Bool)->Value->Value->Value->Value->Value->Value->World->Prop,d (fun _=>false) undef undef undef undef undef undef { c with drawn:=c.drawn+1 }/\(
 (∀ a:Nat->Bool,a 0=false->∀ b c e f g h i,d a b c e f g h i->
 d (aD a 0) b c e f g p0 i)/\
 (∀ b:Nat->Bool,b 1=false->∀ c e f g h i j,d b c e f g h i j->
 RR (sOp (.load 36 (.const a)) 36) j fun a h=>
 d (aD b 1) c e f g a i h)/\
 (∀ a:Nat->Bool,a 2=false->a 0=true->a 1=true->∀ b c e f g h i,d a b c e f g h i->
 RR (aN (.func (.func 148) #[] #[]) [h,g]) i fun f i=>
 d (aD a 2) b c e f g h i)/\
 (∀ a:Nat->Bool,a 3=false->∀ b c e f g h i,d a b c e f g h i->
 d (aD a 3) b c p0 f g h i)/\
 (∀ a:Nat->Bool,a 4=false->∀ c e f g h i j,d a c e f g h i j->
 RR (sOp (.load 36 (.const b)) 36) j fun b e=>
 d (aD a 4) c b f g h i e)/\
 (∀ a:Nat->Bool,a 5=false->a 3=true->a 4=true->a 2=true->∀ b c e f g h i,d a b c e f g h i->
 RR (aN (.func (.func 148) #[] #[]) [e,c]) i fun b i=>
 d (aD a 5) b c e f g h i)/\
 (∀ b:Nat->Bool,b 6=false->b 2=true->b 5=true->b 0=true->b 1=true->b 2=true->∀ c e f g h i j,d b c e f g h i j->
 RR (sOp (.store 36 (.const a) (.const g)) 0) j fun _ a=>
 d (aD b 6) c e f g h i a)/\
 (∀ a:Nat->Bool,a 7=false->a 5=true->a 6=true->a 0=true->a 1=true->a 2=true->a 3=true->a 4=true->a 5=true->a 6=true->∀ c e f g h i j,d a c e f g h i j->
 RR (sOp (.store 36 (.const b) (.const c)) 0) j fun _ b=>
 d (aD a 7) c e f g h i b)/\
 True)/\
 ∀ c:Nat->Bool,c 7=true->c 6=true->c 5=true->c 4=true->c 3=true->c 2=true->c 1=true->c 0=true->∀ e f g h i j k,d c e f g h i j k->
 (∃ c:Value->World->Prop,(
 RR (sOp (.fieldAddr 36 (.const a) 0) 0) k fun d e=>
 RR (sOp (.load 3 (.const d)) 3) e fun d e=>
 RR (aG .eql 3 false true d (.int .i64 1)) e fun d e=>
 ((fun a:VW=>ak d true (
 RR (sOp (.fieldAddr 36 (.const b) 0) 0) e fun b c=>
 RR (sOp (.load 3 (.const b)) 3) c fun b c=>
 RR (aG .eql 3 false true b (.int .i64 1)) c fun b c=>
 RR (sOp (.pick (.const d) (.const b) (.const (.bool false))) 4) c fun b c=>a b c) (
 RR (sOp (.pick (.const d) (.const undef) (.const (.bool false))) 4) e fun b c=>a b c)) fun d e=>
 ak d true (
 RR (sOp (.fieldAddr 36 (.const a) 1) 0) e fun a e=>
 RR (sOp (.load 3 (.const a)) 3) e fun a e=>
 RR (sOp (.fieldAddr 36 (.const b) 1) 0) e fun b e=>
 RR (sOp (.load 3 (.const b)) 3) e fun b e=>
 RR (aG .eql 3 false false a b) e fun a b=>
 RR (sOp (.pick (.const d) (.const a) (.const (.bool false))) 4) b fun a b=>
 c a b) (
 RR (sOp (.pick (.const d) (.const undef) (.const (.bool false))) 4) e fun a b=>
 c a b)))/\
 ∀ d _ _ _ _ _ _ _ _ _ _ _ _ _ _ _:Value,∀ e:World,c d e->
 CondV d (
 R (.returned (.bool true)) e) (
 RR (sOp (.fieldAddr 36 (.const a) 0) 0) e fun c d=>
 RR (sOp (.load 3 (.const c)) 3) d fun c d=>
 RR (aG .eql 3 false true c (.int .i64 1)) d fun c d=>
 CondV c (
 RR (sOp (.fieldAddr 36 (.const a) 1) 0) d fun a c=>
 RR (sOp (.load 3 (.const a)) 3) c fun a c=>
 RR (sOp (.load 36 (.const b)) 36) c fun b c=>
 RR (aN (.func (.func 149) #[] #[]) [p0,a,b]) c fun a b=>
 R (.returned a) b) (
 RR (sOp (.fieldAddr 36 (.const b) 0) 0) d fun c d=>
 RR (sOp (.load 3 (.const c)) 3) d fun c d=>
 RR (aG .eql 3 false true c (.int .i64 1)) d fun c d=>
 CondV c (
 RR (sOp (.fieldAddr 36 (.const b) 1) 0) d fun b c=>
 RR (sOp (.load 3 (.const b)) 3) c fun b c=>
 RR (sOp (.load 36 (.const a)) 36) c fun a c=>
 RR (aN (.func (.func 149) #[] #[]) [p0,b,a]) c fun a b=>
 R (.returned a) b) (
 (∃ c:Value->World->Prop,(
 RR (sOp (.fieldAddr 36 (.const a) 0) 0) d fun d e=>
 RR (sOp (.load 3 (.const d)) 3) e fun d e=>
 RR (sOp (.fieldAddr 36 (.const b) 0) 0) e fun e f=>
 RR (sOp (.load 3 (.const e)) 3) f fun e f=>
 RR (aG .neq 3 false false d e) f fun d e=>
 ((fun c:VW=>ak d false (
 RR (sOp (.fieldAddr 36 (.const a) 1) 0) e fun a e=>
 RR (sOp (.load 3 (.const a)) 3) e fun a e=>
 RR (sOp (.fieldAddr 36 (.const b) 1) 0) e fun b e=>
 RR (sOp (.load 3 (.const b)) 3) e fun b e=>
 RR (aG .neq 3 false false a b) e fun a b=>
 RR (sOp (.pick (.const d) (.const (.bool true)) (.const a)) 4) b fun a b=>c a b) (
 RR (sOp (.pick (.const d) (.const (.bool true)) (.const undef)) 4) e fun a b=>c a b)) fun d e=>
 ((fun c:VW=>ak d false (
 RR (sOp (.fieldAddr 36 (.const a) 2) 0) e fun a e=>
 RR (sOp (.load 9 (.const a)) 9) e fun a e=>
 RR (sOp (.fieldAddr 36 (.const b) 2) 0) e fun b e=>
 RR (sOp (.load 9 (.const b)) 9) e fun b e=>
 RR (aG .neq 9 false false a b) e fun a b=>
 RR (sOp (.pick (.const d) (.const (.bool true)) (.const a)) 4) b fun a b=>c a b) (
 RR (sOp (.pick (.const d) (.const (.bool true)) (.const undef)) 4) e fun a b=>c a b)) fun d e=>
 ak d false (
 RR (sOp (.fieldAddr 36 (.const a) 3) 0) e fun a e=>
 RR (sOp (.load 34 (.const a)) 34) e fun a e=>
 RR (aM .len #[34] 3 [false] [a]) e fun a e=>
 RR (sOp (.fieldAddr 36 (.const b) 3) 0) e fun b e=>
 RR (sOp (.load 34 (.const b)) 34) e fun b e=>
 RR (aM .len #[34] 3 [false] [b]) e fun b e=>
 RR (aG .neq 3 false false a b) e fun a b=>
 RR (sOp (.pick (.const d) (.const (.bool true)) (.const a)) 4) b fun a b=>
 c a b) (
 RR (sOp (.pick (.const d) (.const (.bool true)) (.const undef)) 4) e fun a b=>
 c a b))))/\
 ∀ d _ _ _ _ _ _ _ _ _ _ _ _ _ _ _ _ _ _ _ _ _ _ _ _ _ _ _ _:Value,∀ e:World,c d e->
 CondV d (
 R (.returned (.bool false)) e) (
 RR (sOp (.fieldAddr 36 (.const a) 3) 0) e fun c d=>
 RR (sOp (.load 34 (.const c)) 34) d fun c d=>
 RR (aM .len #[34] 3 [false] [c]) d fun c d=>
 (∃ (e:Value->World->Prop) (f:Value->World->Nat),e (.int .i64 0) d/\
 ∀ d _ _ g h i j k l m n o p q r s _ _ _:Value,∀ t:World,e d t->
 RR (aG .lss 3 false false d c) t fun c u=>
 CondV c (
 (∃ c:(Nat->Bool)->Value->Value->Value->Value->Value->Value->Value->Value->Value->Value->Value->Value->Value->World->Prop,c (fun _=>false) g h i j k l m n o p q r s { u with drawn:=u.drawn+1 }/\(
 (∀ a:Nat->Bool,a 0=false->∀ b d e f g h i j k l m n o p,c a b d e f g h i j k l m n o p->
 c (aD a 0) b d e f g h i j k l m n p0 p)/\
 (∀ b:Nat->Bool,b 1=false->∀ d e f g h i j k l m n o p q,c b d e f g h i j k l m n o p q->
 RR (sOp (.fieldAddr 36 (.const a) 3) 0) q fun a o=>
 c (aD b 1) d e f g h i j k l m n a p o)/\
 (∀ a:Nat->Bool,a 2=false->a 1=true->∀ b d e f g h i j k l m n o p,c a b d e f g h i j k l m n o p->
 RR (sOp (.load 34 (.const n)) 34) p fun m p=>
 c (aD a 2) b d e f g h i j k l m n o p)/\
 (∀ a:Nat->Bool,a 3=false->∀ b e f g h i j k l m n o p q,c a b e f g h i j k l m n o p q->
 c (aD a 3) b e f g h i j k l d n o p q)/\
 (∀ a:Nat->Bool,a 4=false->a 2=true->a 3=true->∀ b d e f g h i j k l m n o p,c a b d e f g h i j k l m n o p->
 RR (sOp (.indexAddr 34 (.const m) (.const l)) 0) p fun k p=>
 c (aD a 4) b d e f g h i j k l m n o p)/\
 (∀ a:Nat->Bool,a 5=false->a 4=true->∀ b d e f g h i j k l m n o p,c a b d e f g h i j k l m n o p->
 RR (sOp (.load 36 (.const k)) 36) p fun j p=>
 c (aD a 5) b d e f g h i j k l m n o p)/\
 (∀ a:Nat->Bool,a 6=false->∀ d e f g h i j k l m n o p q,c a d e f g h i j k l m n o p q->
 RR (sOp (.fieldAddr 36 (.const b) 3) 0) q fun b j=>
 c (aD a 6) d e f g h i b k l m n o p j)/\
 (∀ a:Nat->Bool,a 7=false->a 6=true->∀ b d e f g h i j k l m n o p,c a b d e f g h i j k l m n o p->
 RR (sOp (.load 34 (.const i)) 34) p fun h p=>
 c (aD a 7) b d e f g h i j k l m n o p)/\
 (∀ a:Nat->Bool,a 8=false->∀ b e f g h i j k l m n o p q,c a b e f g h i j k l m n o p q->
 c (aD a 8) b e f g d i j k l m n o p q)/\
 (∀ a:Nat->Bool,a 9=false->a 7=true->a 8=true->∀ b d e f g h i j k l m n o p,c a b d e f g h i j k l m n o p->
 RR (sOp (.indexAddr 34 (.const h) (.const g)) 0) p fun f p=>
 c (aD a 9) b d e f g h i j k l m n o p)/\
 (∀ a:Nat->Bool,a 10=false->a 9=true->∀ b d e f g h i j k l m n o p,c a b d e f g h i j k l m n o p->
 RR (sOp (.load 36 (.const f)) 36) p fun e p=>
 c (aD a 10) b d e f g h i j k l m n o p)/\
 (∀ a:Nat->Bool,a 11=false->a 0=true->a 5=true->a 10=true->∀ b d e f g h i j k l m n o p,c a b d e f g h i j k l m n o p->
 RR (aN (.func (.func 123) #[] #[]) [o,j,e]) p fun d p=>
 c (aD a 11) b d e f g h i j k l m n o p)/\
 (∀ a:Nat->Bool,a 12=false->a 11=true->∀ b d e f g h i j k l m n o p,c a b d e f g h i j k l m n o p->
 RR (sOp (.unOp .not 4 (.const d)) 4) p fun b p=>
 c (aD a 12) b d e f g h i j k l m n o p)/\
 True)/\
 ∀ a:Nat->Bool,a 12=true->a 11=true->a 10=true->a 9=true->a 8=true->a 7=true->a 6=true->a 5=true->a 4=true->a 3=true->a 2=true->a 1=true->a 0=true->∀ b g h i j k l m n o p q r s,c a b g h i j k l m n o p q r s->
 CondV b (
 R (.returned (.bool false)) s) (
 RR (aG .add 3 false true d (.int .i64 1)) s fun a b=>
 e a b/\f a b<f d t))) (
 R (.returned (.bool true)) u)))))))))
theorem mT {p0 p1 p2:Value} {w:World} {R:Ending->World->Prop} (h:jK p0 p1 p2 w R):Calls Tryz.prog 123 #[p0,p1,p2] w R:=
  aQ (.seq none .leaf (.seq none .leaf (.seq none (.one (.seq (some [14]) .leaf (.two .leaf (.seq none .leaf (.two .leaf (.seq none .leaf (.two .leaf (.seq (some [48]) .leaf .leaf)))))))) (.seq none (.seq none .leaf (.one (.loop [80] .leaf))) .leaf)))) [p0,p1,p2] bl Tryz.func123 (by kernel_rfl) (by kernel_rfl) h


/- (*loop.example/prologserver/impl.store).undo : function 124 -/
def lj (p0 p1:Value) (w:World) (R:Ending->World->Prop):Prop:=
 RR (sOp (.nilCheck (.const p0)) 0) w fun a b=>
 RR (sOp (.fieldAddr 155 (.const a) 1) 0) b fun a b=>
 RR (sOp (.load 49 (.const a)) 49) b fun a b=>
 RR (sOp (.slice 49 (.const a) (some (.const p1)) none none) 49) b fun a b=>
 RR (aM .len #[49] 3 [false] [a]) b fun b c=>
 (∃ (d:Value->World->Prop) (e:Value->World->Nat),d (.int .i64 0) c/\
 ∀ c _ _ _ _ _ _ _ _ _ _:Value,∀ f:World,d c f->
 RR (aG .lss 3 false false c b) f fun b g=>
 CondV b (
 RR (sOp (.indexAddr 49 (.const a) (.const c)) 0) g fun a b=>
 RR (sOp (.load 3 (.const a)) 3) b fun a b=>
 RR (sOp (.nilCheck (.const p0)) 0) b fun b g=>
 RR (sOp (.fieldAddr 155 (.const b) 0) 0) g fun b g=>
 RR (sOp (.load 92 (.const b)) 92) g fun b g=>
 RR (aM .delete #[92,3] 0 [false,false] [b,a]) g fun _ a=>
 RR (aG .add 3 false true c (.int .i64 1)) a fun a b=>
 d a b/\e a b<e c f) (
 RR (sOp (.nilCheck (.const p0)) 0) g fun a b=>
 RR (sOp (.fieldAddr 155 (.const a) 1) 0) b fun a b=>
 RR (sOp (.load 49 (.const a)) 49) b fun a b=>
 RR (sOp (.slice 49 (.const a) none (some (.const p1)) none) 49) b fun a b=>
 RR (sOp (.nilCheck (.const p0)) 0) b fun b c=>
 RR (sOp (.fieldAddr 155 (.const b) 1) 0) c fun b c=>
 RR (sOp (.store 49 (.const b) (.const a)) 0) c fun _ a=>
 R (.returned (.tuple #[])) a))
theorem nY {p0 p1:Value} {w:World} {R:Ending->World->Prop} (h:lj p0 p1 w R):Calls Tryz.prog 124 #[p0,p1] w R:=
  aQ (.seq none (.seq none .leaf (.one (.loop [13] .leaf))) .leaf) [p0,p1] bl Tryz.func124 (by kernel_rfl) (by kernel_rfl) h


/- loop.example/prologserver/impl.arith : function 125 -/
def vi (p0:Value) (w:World) (R:Ending->World->Prop):Prop:=
 RR (sOp (.box 36 (.const p0)) 0) w fun a b=>
 RR (sOp (.fieldAddr 36 (.const a) 0) 0) b fun b c=>
 RR (sOp (.load 3 (.const b)) 3) c fun b c=>
 RR (aG .eql 3 false true b (.int .i64 2)) c fun b c=>
 CondV b (
 RR (sOp (.fieldAddr 36 (.const a) 1) 0) c fun a b=>
 RR (sOp (.load 3 (.const a)) 3) b fun a b=>
 R (.returned (.tuple #[a,(.int .i64 0)])) b) (
 RR (sOp (.fieldAddr 36 (.const a) 0) 0) c fun b c=>
 RR (sOp (.load 3 (.const b)) 3) c fun b c=>
 RR (aG .eql 3 false true b (.int .i64 1)) c fun b c=>
 CondV b (
 R (.returned (.tuple #[(.int .i64 0),(.int .i64 2)])) c) (
 (∃ b:Value->World->Prop,(
 RR (sOp (.fieldAddr 36 (.const a) 3) 0) c fun c d=>
 RR (sOp (.load 34 (.const c)) 34) d fun c d=>
 RR (aM .len #[34] 3 [false] [c]) d fun c d=>
 RR (aG .neq 3 false true c (.int .i64 2)) d fun c d=>
 ak c false (
 RR (bB 120 5 [(0,(.string ⟨#[43]⟩)),(1,(.string ⟨#[45]⟩)),(2,(.string ⟨#[42]⟩)),(3,(.string ⟨#[47,47]⟩)),(4,(.string ⟨#[109,111,100]⟩))]) d fun d e=>
 RR (sOp (.fieldAddr 36 (.const a) 2) 0) e fun a e=>
 RR (sOp (.load 9 (.const a)) 9) e fun a e=>
 RR (aN (.func (.func 147) #[] #[]) [d,a]) e fun a d=>
 RR (sOp (.unOp .not 4 (.const a)) 4) d fun a d=>
 RR (sOp (.pick (.const c) (.const (.bool true)) (.const a)) 4) d fun a c=>
 b a c) (
 RR (sOp (.pick (.const c) (.const (.bool true)) (.const undef)) 4) d fun a c=>
 b a c))/\
 ∀ c _ _ _ _ _ _ _ _ _ _ _:Value,∀ d:World,b c d->
 CondV c (
 R (.returned (.tuple #[(.int .i64 0),(.int .i64 3)])) d) (
 RR (sOp (.fieldAddr 36 (.const a) 3) 0) d fun b c=>
 RR (sOp (.load 34 (.const b)) 34) c fun b c=>
 RR (sOp (.indexAddr 34 (.const b) (.const (.int .i64 0))) 0) c fun b c=>
 RR (sOp (.load 36 (.const b)) 36) c fun b c=>
 RR (aN (.func (.func 125) #[] #[]) [b]) c fun b c=>
 RR (sOp (.extract (.const b) 0) 3) c fun c d=>
 RR (sOp (.extract (.const b) 1) 3) d fun b d=>
 RR (aG .neq 3 false true b (.int .i64 0)) d fun d e=>
 CondV d (
 R (.returned (.tuple #[(.int .i64 0),b])) e) (
 RR (sOp (.fieldAddr 36 (.const a) 3) 0) e fun b d=>
 RR (sOp (.load 34 (.const b)) 34) d fun b d=>
 RR (sOp (.indexAddr 34 (.const b) (.const (.int .i64 1))) 0) d fun b d=>
 RR (sOp (.load 36 (.const b)) 36) d fun b d=>
 RR (aN (.func (.func 125) #[] #[]) [b]) d fun b d=>
 RR (sOp (.extract (.const b) 0) 3) d fun d e=>
 RR (sOp (.extract (.const b) 1) 3) e fun b e=>
 RR (aG .neq 3 false true b (.int .i64 0)) e fun e f=>
 CondV e (
 R (.returned (.tuple #[(.int .i64 0),b])) f) (
 (∃ b:Value->World->Prop,(
 RR (sOp (.fieldAddr 36 (.const a) 2) 0) f fun e f=>
 RR (sOp (.load 9 (.const e)) 9) f fun e f=>
 RR (aG .eql 9 false true e (.string ⟨#[43]⟩)) f fun f g=>
 CondV f (
 RR (aG .add 3 false false c d) g fun a c=>
 b a c) (
 RR (aG .eql 9 false true e (.string ⟨#[45]⟩)) g fun f g=>
 CondV f (
 RR (aG .sub 3 false false c d) g fun a c=>
 b a c) (
 RR (aG .eql 9 false true e (.string ⟨#[42]⟩)) g fun e f=>
 CondV e (
 RR (aG .mul 3 false false c d) f fun a c=>
 b a c) (
 RR (aG .eql 3 false true d (.int .i64 0)) f fun e f=>
 CondV e (
 R (.returned (.tuple #[(.int .i64 0),(.int .i64 4)])) f) (
 RR (aG .quo 3 false false c d) f fun e f=>
 RR (sOp (.fieldAddr 36 (.const a) 2) 0) f fun a f=>
 RR (sOp (.load 9 (.const a)) 9) f fun a f=>
 RR (aG .eql 9 false true a (.string ⟨#[109,111,100]⟩)) f fun a f=>
 CondV a (
 RR (aG .rem 3 false false c d) f fun a c=>
 RR (aG .add 3 false false a d) c fun a c=>
 RR (aG .rem 3 false false a d) c fun a c=>
 b a c) (
 b e f))))))/\
 ∀ _ _ _ _ _ _ _ _ _ _ _ _ _ _ _ _ _ _ _ _ _ _ _ _ _ _ _ a _ _ _ _ _ _ _:Value,∀ c:World,b a c->
 RR (aN (.func (.func 64) #[] #[]) [a,(.int .i64 (-999)),(.int .i64 999)]) c fun b c=>
 RR (sOp (.unOp .not 4 (.const b)) 4) c fun b c=>
 CondV b (
 R (.returned (.tuple #[(.int .i64 0),(.int .i64 5)])) c) (
 R (.returned (.tuple #[a,(.int .i64 0)])) c))))))))
theorem xp {p0:Value} {w:World} {R:Ending->World->Prop} (h:vi p0 w R):Calls Tryz.prog 125 #[p0] w R:=
  aQ (.seq none .leaf (.seq none (.one (.seq none .leaf (.two .leaf (.seq none .leaf (.two .leaf (.seq (some [18]) .leaf .leaf)))))) (.seq none .leaf (.seq none .leaf (.seq none .leaf (.seq none .leaf (.seq none .leaf (.seq (some [7]) .leaf .leaf)))))))) [p0] bl Tryz.func125 (by kernel_rfl) (by kernel_rfl) h


/- loop.example/prologserver/impl.number : function 126 -/
def sn (p0:Value) (w:World) (R:Ending->World->Prop):Prop:=
 RR (sOp (.alloc 36) 0) w fun a b=>
 RR (dn 36 [(0,(.int .i64 2)),(1,p0)]) b fun b c=>
 RR (sOp (.store 36 (.const a) (.const b)) 0) c fun _ b=>
 (bg Tryz.prog 36 a b fun a=>R (.returned a) b)
theorem vW {p0:Value} {w:World} {R:Ending->World->Prop} (h:sn p0 w R):Calls Tryz.prog 126 #[p0] w R:=
  aQ .leaf [p0] bl Tryz.func126 (by kernel_rfl) (by kernel_rfl) h


/- (*loop.example/prologserver/impl.store).resolve : function 127 -/
def ir (p0 p1:Value) (w:World) (R:Ending->World->Prop):Prop:=
 RR (sOp (.box 36 (.const p1)) 0) w fun a b=>
 RR (sOp (.alloc 36) 0) b fun b c=>
 RR (sOp (.alloc 3) 0) c fun c d=>
 RR (sOp (.store 3 (.const c) (.const (.int .i64 0))) 0) d fun _ d=>
 RR (sOp (.load 36 (.const a)) 36) d fun a d=>
 RR (aN (.func (.func 150) #[] #[]) [p0,a,(.int .i64 1),c]) d fun a c=>
 RR (sOp (.extract (.const a) 0) 36) c fun c d=>
 RR (sOp (.extract (.const a) 1) 4) d fun a d=>
 RR (sOp (.store 36 (.const b) (.const c)) 0) d fun _ c=>
 (bg Tryz.prog 36 b c fun b=>R (.returned (.tuple #[b,a])) c)
theorem lq {p0 p1:Value} {w:World} {R:Ending->World->Prop} (h:ir p0 p1 w R):Calls Tryz.prog 127 #[p0,p1] w R:=
  aQ .leaf [p0,p1] bl Tryz.func127 (by kernel_rfl) (by kernel_rfl) h


/- slices.EqualFunc[[]loop.example/prologserver/impl.Term,[]loop.example/prologserver/impl.Term,loop.example/prologserver/impl.Term,loop.example/prologserver/impl.Term] : function 128 -/
def g8 (p0 p1 p2:Value) (w:World) (R:Ending->World->Prop):Prop:=
 RR (aM .len #[34] 3 [false] [p0]) w fun a b=>
 RR (aM .len #[34] 3 [false] [p1]) b fun b c=>
 RR (aG .neq 3 false false a b) c fun a b=>
 CondV a (
 R (.returned (.bool false)) b) (
 RR (aM .len #[34] 3 [false] [p0]) b fun a b=>
 (∃ (c:Value->World->Prop) (d:Value->World->Nat),c (.int .i64 0) b/\
 ∀ b _ _ _ _ _ _ _ _ _ _ _ _ _ _ _ _ _ _:Value,∀ e:World,c b e->
 RR (aG .lss 3 false false b a) e fun a f=>
 CondV a (
 RR (sOp (.indexAddr 34 (.const p0) (.const b)) 0) f fun a f=>
 RR (sOp (.load 36 (.const a)) 36) f fun a f=>
 RR (sOp (.alloc 36) 0) f fun f g=>
 RR (sOp (.store 36 (.const f) (.const a)) 0) g fun _ a=>
 RR (sOp (.indexAddr 34 (.const p1) (.const b)) 0) a fun a g=>
 RR (sOp (.load 36 (.const a)) 36) g fun a g=>
 RR (sOp (.alloc 36) 0) g fun g h=>
 RR (sOp (.store 36 (.const g) (.const a)) 0) h fun _ a=>
 RR (sOp (.load 36 (.const f)) 36) a fun a f=>
 RR (sOp (.load 36 (.const g)) 36) f fun f g=>
 RR (aN p2 [a,f]) g fun a f=>
 RR (sOp (.unOp .not 4 (.const a)) 4) f fun a f=>
 CondV a (
 R (.returned (.bool false)) f) (
 RR (aG .add 3 false true b (.int .i64 1)) f fun a f=>
 c a f/\d a f<d b e)) (
 R (.returned (.bool true)) f)))
theorem kz {p0 p1 p2:Value} {w:World} {R:Ending->World->Prop} (h:g8 p0 p1 p2 w R):Calls Tryz.prog 128 #[p0,p1,p2] w R:=
  aQ (.seq none .leaf (.seq none .leaf (.seq none (.seq none .leaf (.one (.loop [17] .leaf))) .leaf))) [p0,p1,p2] bl Tryz.func128 (by kernel_rfl) (by kernel_rfl) h

end Go.Proofs.YtfcbhfjomgopbaaGreat
