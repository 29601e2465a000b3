/- Made by program: the functions in a shallow form; each form gives Calls. -/
import Derived.Test.YtnmnddpdikghhaaGreatZrS
import Derived.Test.YtnmnddpdikghhaaGreatProg
import Derived.Test.YtnmnddpdikghhaaGreatZrh0
import Derived.KernelRfl
set_option maxRecDepth 100000
namespace Go.Proofs.YtnmnddpdikghhaaGreat
open Go
/- loop.example/prologserver/spec.l3Shift : function 81 -/
def rD (p0 p1:Value) (w:World) (R:Ending->World->Prop):Prop:=
 RR (sOp (.box 25 (.const p0)) 0) w fun a b=>
 RR (sOp (.alloc 25) 0) b fun b c=>
 RR (sOp (.fieldAddr 25 (.const a) 0) 0) c fun c d=>
 RR (sOp (.load 3 (.const c)) 3) d fun c d=>
 RR (sOp (.fieldAddr 25 (.const a) 1) 0) d fun d e=>
 RR (sOp (.load 3 (.const d)) 3) e fun d e=>
 RR (sOp (.fieldAddr 25 (.const a) 2) 0) e fun e f=>
 RR (sOp (.load 9 (.const e)) 9) f fun e f=>
 RR (bP 25 [(0,c),(1,d),(2,e)]) f fun c d=>
 RR (sOp (.alloc 25) 0) d fun d e=>
 RR (sOp (.store 25 (.const d) (.const c)) 0) e fun _ c=>
 (∃ e:World->Prop,(
 RR (sOp (.fieldAddr 25 (.const a) 0) 0) c fun b c=>
 RR (sOp (.load 3 (.const b)) 3) c fun b c=>
 RR (av .eql 3 false true b (.int .i64 1)) c fun b c=>
 CondV b (
 RR (sOp (.fieldAddr 25 (.const a) 1) 0) c fun a b=>
 RR (sOp (.load 3 (.const a)) 3) b fun a b=>
 RR (av .add 3 false false a p1) b fun a b=>
 RR (sOp (.fieldAddr 25 (.const d) 1) 0) b fun b c=>
 RR (sOp (.store 3 (.const b) (.const a)) 0) c fun _ a=>
 e a) (
 e c))/\
 ∀ _ _ _ _ _ _ _ _:Value,∀ c:World,e c->
 (∃ (e:Value->World->Prop) (f:Value->World->Nat),e (.int .i64 0) c/\
 ∀ c _ _ g h i j k l m n o p q r _ _ _ _ _:Value,∀ s:World,e c s->
 RR (sOp (.fieldAddr 25 (.const a) 3) 0) s fun t u=>
 RR (sOp (.load 23 (.const t)) 23) u fun t u=>
 RR (aE .len #[23] 3 [false] [t]) u fun t u=>
 RR (av .lss 3 false false c t) u fun t u=>
 CondV t (
 (∃ b:(Nat->Bool)->Value->Value->Value->Value->Value->Value->Value->Value->Value->Value->Value->Value->World->Prop,b (fun _=>false) g h i j k l m n o p q r { u with drawn:=u.drawn+1 }/\(
 (∀ a:Nat->Bool,a 0=false->∀ c e f g h i j k l m n o p,b a c e f g h i j k l m n o p->
 RR (sOp (.fieldAddr 25 (.const d) 3) 0) p fun d o=>
 b (ao a 0) c e f g h i j k l m n d o)/\
 (∀ a:Nat->Bool,a 1=false->a 0=true->∀ c d e f g h i j k l m n o,b a c d e f g h i j k l m n o->
 RR (sOp (.load 23 (.const n)) 23) o fun m o=>
 b (ao a 1) c d e f g h i j k l m n o)/\
 (∀ c:Nat->Bool,c 2=false->∀ d e f g h i j k l m n o p,b c d e f g h i j k l m n o p->
 RR (sOp (.fieldAddr 25 (.const a) 3) 0) p fun a m=>
 b (ao c 2) d e f g h i j k l a n o m)/\
 (∀ a:Nat->Bool,a 3=false->a 2=true->∀ c d e f g h i j k l m n o,b a c d e f g h i j k l m n o->
 RR (sOp (.load 23 (.const l)) 23) o fun k o=>
 b (ao a 3) c d e f g h i j k l m n o)/\
 (∀ a:Nat->Bool,a 4=false->∀ d e f g h i j k l m n o p,b a d e f g h i j k l m n o p->
 b (ao a 4) d e f g h i j c l m n o p)/\
 (∀ a:Nat->Bool,a 5=false->a 3=true->a 4=true->∀ c d e f g h i j k l m n o,b a c d e f g h i j k l m n o->
 RR (sOp (.indexAddr 23 (.const k) (.const j)) 0) o fun i o=>
 b (ao a 5) c d e f g h i j k l m n o)/\
 (∀ a:Nat->Bool,a 6=false->a 5=true->∀ c d e f g h i j k l m n o,b a c d e f g h i j k l m n o->
 RR (sOp (.load 25 (.const i)) 25) o fun h o=>
 b (ao a 6) c d e f g h i j k l m n o)/\
 (∀ a:Nat->Bool,a 7=false->∀ c d e f g h i j k l m n o,b a c d e f g h i j k l m n o->
 b (ao a 7) c d e f p1 h i j k l m n o)/\
 (∀ a:Nat->Bool,a 8=false->a 6=true->a 7=true->∀ c d e f g h i j k l m n o,b a c d e f g h i j k l m n o->
 RR (aF (.func (.func 81) #[] #[]) [h,g]) o fun f o=>
 b (ao a 8) c d e f g h i j k l m n o)/\
 (∀ a:Nat->Bool,a 9=false->a 8=true->∀ c d e f g h i j k l m n o,b a c d e f g h i j k l m n o->
 RR (aQ 23 1 [(0,f)]) o fun e o=>
 b (ao a 9) c d e f g h i j k l m n o)/\
 (∀ a:Nat->Bool,a 10=false->a 1=true->a 9=true->a 8=true->∀ c d e f g h i j k l m n o,b a c d e f g h i j k l m n o->
 RR (aE .append #[23,23] 23 [false,false] [m,e]) o fun d o=>
 b (ao a 10) c d e f g h i j k l m n o)/\
 (∀ a:Nat->Bool,a 11=false->a 0=true->a 1=true->a 2=true->a 3=true->a 4=true->a 5=true->a 6=true->a 7=true->a 8=true->a 9=true->a 10=true->∀ c e f g h i j k l m n o p,b a c e f g h i j k l m n o p->
 RR (sOp (.fieldAddr 25 (.const d) 3) 0) p fun c d=>
 b (ao a 11) c e f g h i j k l m n o d)/\
 (∀ a:Nat->Bool,a 12=false->a 11=true->a 10=true->a 10=true->a 0=true->a 1=true->a 2=true->a 3=true->a 4=true->a 5=true->a 6=true->a 7=true->a 8=true->a 9=true->a 10=true->∀ c d e f g h i j k l m n o,b a c d e f g h i j k l m n o->
 RR (sOp (.store 23 (.const c) (.const d)) 0) o fun _ o=>
 b (ao a 12) c d e f g h i j k l m n o)/\
 True)/\
 ∀ a:Nat->Bool,a 12=true->a 11=true->a 10=true->a 9=true->a 8=true->a 7=true->a 6=true->a 5=true->a 4=true->a 3=true->a 2=true->a 1=true->a 0=true->∀ d g h i j k l m n o p q r,b a d g h i j k l m n o p q r->
 RR (av .add 3 false true c (.int .i64 1)) r fun a b=>
 e a b/\f a b<f c s)) (
 RR (sOp (.load 25 (.const d)) 25) u fun a c=>
 RR (sOp (.store 25 (.const b) (.const a)) 0) c fun _ a=>
 (a4 Tryz.prog 25 b a fun b=>R (.returned b) a))))
theorem wv {p0 p1:Value} {w:World} {R:Ending->World->Prop} (h:rD p0 p1 w R):Calls Tryz.prog 81 #[p0,p1] w R:=
  aK (.seq none .leaf (.seq none .leaf (.seq (some []) .leaf (.seq none (.seq none .leaf (.one (.loop [6] .leaf))) .leaf)))) [p0,p1] bp Tryz.func81 (by kernel_rfl) (by kernel_rfl) h


/- loop.example/prologserver/spec.l3Walk : function 82 -/
def ve (p0 p1:Value) (w:World) (R:Ending->World->Prop):Prop:=
 RR (sOp (.box 25 (.const p0)) 0) w fun a b=>
 RR (sOp (.alloc 25) 0) b fun b c=>
 (∃ (d:World->Prop) (e:World->Nat),d c/\
 ∀ _ _ _ _ _ _ _ _ _ _ _ _ _ _ _ _ _ _ _ _ _ _ _ _:Value,∀ c:World,d c->
 (∃ f:Value->World->Prop,(
 RR (sOp (.fieldAddr 25 (.const a) 0) 0) c fun b c=>
 RR (sOp (.load 3 (.const b)) 3) c fun b c=>
 RR (av .eql 3 false true b (.int .i64 1)) c fun b c=>
 ((fun d:VW=>ai b true (
 RR (sOp (.fieldAddr 25 (.const a) 1) 0) c fun a c=>
 RR (sOp (.load 3 (.const a)) 3) c fun a c=>
 RR (aE .len #[23] 3 [false] [p1]) c fun c e=>
 RR (av .lss 3 false false a c) e fun a c=>
 RR (sOp (.pick (.const b) (.const a) (.const (.bool false))) 4) c fun a b=>d a b) (
 RR (sOp (.pick (.const b) (.const undef) (.const (.bool false))) 4) c fun a b=>d a b)) fun b c=>
 ai b true (
 RR (sOp (.fieldAddr 25 (.const a) 1) 0) c fun a c=>
 RR (sOp (.load 3 (.const a)) 3) c fun a c=>
 RR (sOp (.indexAddr 23 (.const p1) (.const a)) 0) c fun a c=>
 RR (sOp (.fieldAddr 25 (.const a) 0) 0) c fun a c=>
 RR (sOp (.load 3 (.const a)) 3) c fun a c=>
 RR (av .neq 3 false true a (.int .i64 0)) c fun a c=>
 RR (sOp (.pick (.const b) (.const a) (.const (.bool false))) 4) c fun a b=>
 f a b) (
 RR (sOp (.pick (.const b) (.const undef) (.const (.bool false))) 4) c fun a b=>
 f a b)))/\
 ∀ g _ _ _ _ _ _ _ _ _ _ _ _ _ _ _ _ _ _:Value,∀ h:World,f g h->
 CondV g (
 RR (sOp (.fieldAddr 25 (.const a) 1) 0) h fun b f=>
 RR (sOp (.load 3 (.const b)) 3) f fun b f=>
 RR (sOp (.indexAddr 23 (.const p1) (.const b)) 0) f fun b f=>
 RR (sOp (.load 25 (.const b)) 25) f fun b f=>
 RR (sOp (.store 25 (.const a) (.const b)) 0) f fun _ a=>
 d a/\e a<e c) (
 RR (sOp (.load 25 (.const a)) 25) h fun a c=>
 RR (sOp (.store 25 (.const b) (.const a)) 0) c fun _ a=>
 (a4 Tryz.prog 25 b a fun b=>R (.returned b) a))))
theorem xW {p0 p1:Value} {w:World} {R:Ending->World->Prop} (h:ve p0 p1 w R):Calls Tryz.prog 82 #[p0,p1] w R:=
  aK (.seq none .leaf (.seq none (.one (.loop [] (.seq none (.seq (some [23]) .leaf .leaf) .leaf))) .leaf)) [p0,p1] bp Tryz.func82 (by kernel_rfl) (by kernel_rfl) h


/- loop.example/prologserver/spec.l3Within : function 83 -/
def pq (p0 p1 p2:Value) (w:World) (R:Ending->World->Prop):Prop:=
 RR (sOp (.box 25 (.const p1)) 0) w fun a b=>
 RR (sOp (.load 25 (.const a)) 25) b fun a b=>
 RR (aF (.func (.func 86) #[] #[]) [(Value.slice none 0 0),a]) b fun a b=>
 (∃ (c:Value->Value->World->Prop) (d:Value->Value->World->Nat),c (.int .i64 0) a b/\
 ∀ a _ _ b _ _ _ _ _ _ _ _ _ _ _ _ _ _ _ _ _ _ _ _ _ _ _ _ _ _ _ _ _ _ _ _ _ _ _ _ _ _:Value,∀ e:World,c a b e->
 RR (aE .len #[85] 3 [false] [b]) e fun f g=>
 RR (av .lss 3 false false a f) g fun f g=>
 CondV f (
 (∃ f:Value->World->Prop,(
 RR (sOp (.indexAddr 85 (.const b) (.const a)) 0) g fun c d=>
 RR (sOp (.load 3 (.const c)) 3) d fun c d=>
 RR (av .eql 3 false false c p0) d fun c d=>
 CondV c (
 R (.returned (.bool true)) d) (
 (∃ c:Value->World->Prop,(
 RR (sOp (.indexAddr 85 (.const b) (.const a)) 0) d fun d e=>
 RR (sOp (.load 3 (.const d)) 3) e fun d e=>
 RR (aE .len #[23] 3 [false] [p2]) e fun e f=>
 RR (av .lss 3 false false d e) f fun d e=>
 ai d true (
 RR (sOp (.indexAddr 85 (.const b) (.const a)) 0) e fun a b=>
 RR (sOp (.load 3 (.const a)) 3) b fun a b=>
 RR (sOp (.indexAddr 23 (.const p2) (.const a)) 0) b fun a b=>
 RR (sOp (.fieldAddr 25 (.const a) 0) 0) b fun a b=>
 RR (sOp (.load 3 (.const a)) 3) b fun a b=>
 RR (av .neq 3 false true a (.int .i64 0)) b fun a b=>
 RR (sOp (.pick (.const d) (.const a) (.const (.bool false))) 4) b fun a b=>
 c a b) (
 RR (sOp (.pick (.const d) (.const undef) (.const (.bool false))) 4) e fun a b=>
 c a b))/\
 ∀ d _ _ _ _ _ _ _ _ _ _ _ _ _ _ _ _ _:Value,∀ e:World,c d e->
 CondV d (
 RR (sOp (.indexAddr 85 (.const b) (.const a)) 0) e fun a c=>
 RR (sOp (.load 3 (.const a)) 3) c fun a c=>
 RR (sOp (.indexAddr 23 (.const p2) (.const a)) 0) c fun a c=>
 RR (sOp (.load 25 (.const a)) 25) c fun a c=>
 RR (aF (.func (.func 86) #[] #[]) [b,a]) c fun a b=>
 f a b) (
 f b e))))/\
 ∀ g _ _ _ _ _ _ _ _ _ _ _ _ _ _ _ _ _ _ _ _ _ _ _ _ _ _ _ _ _ _ _ _ _ _:Value,∀ h:World,f g h->
 RR (av .add 3 false true a (.int .i64 1)) h fun f h=>
 c f g h/\d f g h<d a b e)) (
 R (.returned (.bool false)) g))
theorem uo {p0 p1 p2:Value} {w:World} {R:Ending->World->Prop} (h:pq p0 p1 p2 w R):Calls Tryz.prog 83 #[p0,p1,p2] w R:=
  aK (.seq none .leaf (.seq none .leaf (.seq none (.seq none .leaf (.one (.loop [8,7] (.seq none .leaf (.seq (some [7]) (.one (.seq none .leaf (.seq (some [40]) .leaf .leaf))) .leaf))))) .leaf))) [p0,p1,p2] bp Tryz.func83 (by kernel_rfl) (by kernel_rfl) h


/- loop.example/prologserver/spec.l3Full : function 84 -/
def vF (p0 p1 p2:Value) (w:World) (R:Ending->World->Prop):Prop:=
 RR (sOp (.box 25 (.const p0)) 0) w fun a b=>
 RR (sOp (.alloc 25) 0) b fun b c=>
 RR (av .lss 3 false true p2 (.int .i64 1)) c fun c d=>
 CondV c (
 RR (bP 25 []) d fun a c=>
 RR (sOp (.store 25 (.const b) (.const a)) 0) c fun _ a=>
 (a4 Tryz.prog 25 b a fun b=>R (.returned (.tuple #[b,(.int .i64 (-1))])) a)) (
 RR (sOp (.load 25 (.const a)) 25) d fun c d=>
 RR (aF (.func (.func 82) #[] #[]) [c,p1]) d fun c d=>
 RR (sOp (.store 25 (.const a) (.const c)) 0) d fun _ c=>
 RR (sOp (.fieldAddr 25 (.const a) 0) 0) c fun c d=>
 RR (sOp (.load 3 (.const c)) 3) d fun c d=>
 RR (sOp (.fieldAddr 25 (.const a) 1) 0) d fun d e=>
 RR (sOp (.load 3 (.const d)) 3) e fun d e=>
 RR (sOp (.fieldAddr 25 (.const a) 2) 0) e fun e f=>
 RR (sOp (.load 9 (.const e)) 9) f fun e f=>
 RR (bP 25 [(0,c),(1,d),(2,e)]) f fun c d=>
 RR (sOp (.alloc 25) 0) d fun d e=>
 RR (sOp (.store 25 (.const d) (.const c)) 0) e fun _ c=>
 RR (av .sub 3 false true p2 (.int .i64 1)) c fun c e=>
 (∃ (f:Value->Value->World->Prop) (g:Value->Value->World->Nat),f (.int .i64 0) c e/\
 ∀ c _ _ e _ _ _ _ _ _ _ _ _ _ _ _ _ _ _ _ _ _ _ _ _ _ _ _ _ _ _ _ _:Value,∀ h:World,f c e h->
 (∃ i:Value->World->Prop,(
 RR (sOp (.fieldAddr 25 (.const a) 3) 0) h fun a b=>
 RR (sOp (.load 23 (.const a)) 23) b fun a b=>
 RR (aE .len #[23] 3 [false] [a]) b fun a b=>
 RR (av .lss 3 false false c a) b fun a b=>
 ai a true (
 RR (av .geq 3 false true e (.int .i64 0)) b fun b c=>
 RR (sOp (.pick (.const a) (.const b) (.const (.bool false))) 4) c fun a b=>
 i a b) (
 RR (sOp (.pick (.const a) (.const undef) (.const (.bool false))) 4) b fun a b=>
 i a b))/\
 ∀ j _ _ _ _ _ _ _ _:Value,∀ k:World,i j k->
 CondV j (
 RR (sOp (.fieldAddr 25 (.const a) 3) 0) k fun a b=>
 RR (sOp (.load 23 (.const a)) 23) b fun a b=>
 RR (sOp (.indexAddr 23 (.const a) (.const c)) 0) b fun a b=>
 RR (sOp (.load 25 (.const a)) 25) b fun a b=>
 RR (aF (.func (.func 84) #[] #[]) [a,p1,e]) b fun a b=>
 RR (sOp (.extract (.const a) 0) 25) b fun b i=>
 RR (sOp (.extract (.const a) 1) 3) i fun a i=>
 RR (sOp (.alloc 25) 0) i fun i j=>
 RR (sOp (.store 25 (.const i) (.const b)) 0) j fun _ b=>
 RR (sOp (.fieldAddr 25 (.const d) 3) 0) b fun b j=>
 RR (sOp (.load 23 (.const b)) 23) j fun b j=>
 RR (sOp (.load 25 (.const i)) 25) j fun i j=>
 RR (aQ 23 1 [(0,i)]) j fun i j=>
 RR (aE .append #[23,23] 23 [false,false] [b,i]) j fun b i=>
 RR (sOp (.fieldAddr 25 (.const d) 3) 0) i fun d i=>
 RR (sOp (.store 23 (.const d) (.const b)) 0) i fun _ b=>
 RR (av .add 3 false true c (.int .i64 1)) b fun b d=>
 f b a d/\g b a d<g c e h) (
 RR (sOp (.load 25 (.const d)) 25) k fun a c=>
 RR (sOp (.store 25 (.const b) (.const a)) 0) c fun _ a=>
 (a4 Tryz.prog 25 b a fun b=>R (.returned (.tuple #[b,e])) a)))))
theorem xH {p0 p1 p2:Value} {w:World} {R:Ending->World->Prop} (h:vF p0 p1 p2 w R):Calls Tryz.prog 84 #[p0,p1,p2] w R:=
  aK (.seq none .leaf (.seq none .leaf (.seq none .leaf (.seq none .leaf (.seq none .leaf (.seq none (.seq none .leaf (.one (.loop [10,9] (.seq none (.seq (some [36]) .leaf .leaf) .leaf)))) .leaf)))))) [p0,p1,p2] bp Tryz.func84 (by kernel_rfl) (by kernel_rfl) h


/- loop.example/prologserver/spec.l6Flat : function 85 -/
def vo (p0 p1:Value) (w:World) (R:Ending->World->Prop):Prop:=
 RR (sOp (.box 25 (.const p0)) 0) w fun a b=>
 RR (av .lss 3 false true p1 (.int .i64 1)) b fun b c=>
 CondV b (
 R (.returned (.bool false)) c) (
 (∃ (b:Value->World->Prop) (d:Value->World->Nat),b (.int .i64 0) c/\
 ∀ c _ _ _ _ _ _ _ _ _ _ _ _ _ _ _ _ _:Value,∀ e:World,b c e->
 RR (sOp (.fieldAddr 25 (.const a) 3) 0) e fun f g=>
 RR (sOp (.load 23 (.const f)) 23) g fun f g=>
 RR (aE .len #[23] 3 [false] [f]) g fun f g=>
 RR (av .lss 3 false false c f) g fun f g=>
 CondV f (
 RR (sOp (.fieldAddr 25 (.const a) 3) 0) g fun a f=>
 RR (sOp (.load 23 (.const a)) 23) f fun a f=>
 RR (sOp (.indexAddr 23 (.const a) (.const c)) 0) f fun a f=>
 RR (sOp (.load 25 (.const a)) 25) f fun a f=>
 RR (av .sub 3 false true p1 (.int .i64 1)) f fun f g=>
 RR (aF (.func (.func 85) #[] #[]) [a,f]) g fun a f=>
 RR (sOp (.unOp .not 4 (.const a)) 4) f fun a f=>
 CondV a (
 R (.returned (.bool false)) f) (
 RR (av .add 3 false true c (.int .i64 1)) f fun a f=>
 b a f/\d a f<d c e)) (
 R (.returned (.bool true)) g)))
theorem yR {p0 p1:Value} {w:World} {R:Ending->World->Prop} (h:vo p0 p1 w R):Calls Tryz.prog 85 #[p0,p1] w R:=
  aK (.seq none .leaf (.seq none .leaf (.seq none (.seq none .leaf (.one (.loop [5] .leaf))) .leaf))) [p0,p1] bp Tryz.func85 (by kernel_rfl) (by kernel_rfl) h


/- loop.example/prologserver/spec.l1Vars : function 86 -/
def vN (p0 p1:Value) (w:World) (R:Ending->World->Prop):Prop:=
 RR (sOp (.box 25 (.const p1)) 0) w fun a b=>
 RR (sOp (.fieldAddr 25 (.const a) 0) 0) b fun b c=>
 RR (sOp (.load 3 (.const b)) 3) c fun b c=>
 RR (av .eql 3 false true b (.int .i64 1)) c fun b c=>
 CondV b (
 (∃ (b:Value->World->Prop) (d:Value->World->Nat),b (.int .i64 0) c/\
 ∀ c _ _ _ _ e f g h i j k _ _ _ _:Value,∀ l:World,b c l->
 RR (aE .len #[85] 3 [false] [p0]) l fun m n=>
 RR (av .lss 3 false false c m) n fun m n=>
 CondV m (
 (∃ m:(Nat->Bool)->Value->Value->Value->Value->Value->Value->Value->World->Prop,m (fun _=>false) e f g h i j k { n with drawn:=n.drawn+1 }/\(
 (∀ a:Nat->Bool,a 0=false->∀ b c d e f g h i,m a b c d e f g h i->
 m (ao a 0) b c d e f g p0 i)/\
 (∀ a:Nat->Bool,a 1=false->∀ b d e f g h i j,m a b d e f g h i j->
 m (ao a 1) b d e f g c i j)/\
 (∀ a:Nat->Bool,a 2=false->a 0=true->a 1=true->∀ b c d e f g h i,m a b c d e f g h i->
 RR (sOp (.indexAddr 85 (.const h) (.const g)) 0) i fun f i=>
 m (ao a 2) b c d e f g h i)/\
 (∀ a:Nat->Bool,a 3=false->a 2=true->∀ b c d e f g h i,m a b c d e f g h i->
 RR (sOp (.load 3 (.const f)) 3) i fun e i=>
 m (ao a 3) b c d e f g h i)/\
 (∀ b:Nat->Bool,b 4=false->∀ c d e f g h i j,m b c d e f g h i j->
 RR (sOp (.fieldAddr 25 (.const a) 1) 0) j fun a e=>
 m (ao b 4) c d a f g h i e)/\
 (∀ a:Nat->Bool,a 5=false->a 4=true->∀ b c d e f g h i,m a b c d e f g h i->
 RR (sOp (.load 3 (.const d)) 3) i fun c i=>
 m (ao a 5) b c d e f g h i)/\
 (∀ a:Nat->Bool,a 6=false->a 3=true->a 5=true->∀ b c d e f g h i,m a b c d e f g h i->
 RR (av .eql 3 false false e c) i fun b i=>
 m (ao a 6) b c d e f g h i)/\
 True)/\
 ∀ a:Nat->Bool,a 6=true->a 5=true->a 4=true->a 3=true->a 2=true->a 1=true->a 0=true->∀ e f g h i j k n,m a e f g h i j k n->
 CondV e (
 R (.returned p0) n) (
 RR (av .add 3 false true c (.int .i64 1)) n fun a e=>
 b a e/\d a e<d c l))) (
 RR (sOp (.fieldAddr 25 (.const a) 1) 0) n fun a b=>
 RR (sOp (.load 3 (.const a)) 3) b fun a b=>
 RR (aQ 85 1 [(0,a)]) b fun a b=>
 RR (aE .append #[85,85] 85 [false,false] [p0,a]) b fun a b=>
 R (.returned a) b))) (
 (∃ (b:Value->Value->World->Prop) (d:Value->Value->World->Nat),b (.int .i64 0) p0 c/\
 ∀ c _ _ e _ _ _ _ _ _ _ _ _ _ _ _:Value,∀ f:World,b c e f->
 RR (sOp (.fieldAddr 25 (.const a) 3) 0) f fun g h=>
 RR (sOp (.load 23 (.const g)) 23) h fun g h=>
 RR (aE .len #[23] 3 [false] [g]) h fun g h=>
 RR (av .lss 3 false false c g) h fun g h=>
 CondV g (
 RR (sOp (.fieldAddr 25 (.const a) 3) 0) h fun a g=>
 RR (sOp (.load 23 (.const a)) 23) g fun a g=>
 RR (sOp (.indexAddr 23 (.const a) (.const c)) 0) g fun a g=>
 RR (sOp (.load 25 (.const a)) 25) g fun a g=>
 RR (aF (.func (.func 86) #[] #[]) [e,a]) g fun a g=>
 RR (av .add 3 false true c (.int .i64 1)) g fun g h=>
 b g a h/\d g a h<d c e f) (
 R (.returned e) h)))
theorem xC {p0 p1:Value} {w:World} {R:Ending->World->Prop} (h:vN p0 p1 w R):Calls Tryz.prog 86 #[p0,p1] w R:=
  aK (.seq none .leaf (.seq none (.seq none .leaf (.two (.seq none (.seq none .leaf (.one (.loop [5] .leaf))) .leaf) .leaf)) (.seq none (.seq none .leaf (.one (.loop [6,0] .leaf))) .leaf))) [p0,p1] bp Tryz.func86 (by kernel_rfl) (by kernel_rfl) h


/- loop.example/prologserver/spec.l1Rename : function 87 -/
def pr (p0 p1:Value) (w:World) (R:Ending->World->Prop):Prop:=
 RR (sOp (.box 25 (.const p0)) 0) w fun a b=>
 RR (sOp (.alloc 25) 0) b fun b c=>
 RR (sOp (.fieldAddr 25 (.const a) 0) 0) c fun c d=>
 RR (sOp (.load 3 (.const c)) 3) d fun c d=>
 RR (sOp (.fieldAddr 25 (.const a) 1) 0) d fun d e=>
 RR (sOp (.load 3 (.const d)) 3) e fun d e=>
 RR (sOp (.fieldAddr 25 (.const a) 2) 0) e fun e f=>
 RR (sOp (.load 9 (.const e)) 9) f fun e f=>
 RR (bP 25 [(0,c),(1,d),(2,e)]) f fun c d=>
 RR (sOp (.alloc 25) 0) d fun d e=>
 RR (sOp (.store 25 (.const d) (.const c)) 0) e fun _ c=>
 (∃ (e:Value->World->Prop) (f:Value->World->Nat),e (.int .i64 0) c/\
 ∀ c _ _ _ _ g h i j k l m _ _ _ _ _ _ _ _ _:Value,∀ n:World,e c n->
 (∃ o:Value->World->Prop,(
 RR (aE .len #[85] 3 [false] [p1]) n fun b d=>
 RR (av .lss 3 false false c b) d fun b c=>
 ai b true (
 RR (sOp (.fieldAddr 25 (.const a) 0) 0) c fun a c=>
 RR (sOp (.load 3 (.const a)) 3) c fun a c=>
 RR (av .eql 3 false true a (.int .i64 1)) c fun a c=>
 RR (sOp (.pick (.const b) (.const a) (.const (.bool false))) 4) c fun a b=>
 o a b) (
 RR (sOp (.pick (.const b) (.const undef) (.const (.bool false))) 4) c fun a b=>
 o a b))/\
 ∀ p _ _ _ _ _ _ _ _:Value,∀ q:World,o p q->
 CondV p (
 (∃ b:World->Prop,(
 (∃ e:(Nat->Bool)->Value->Value->Value->Value->Value->Value->Value->World->Prop,e (fun _=>false) g h i j k l m { q with drawn:=q.drawn+1 }/\(
 (∀ a:Nat->Bool,a 0=false->∀ b c d f g h i j,e a b c d f g h i j->
 e (ao a 0) b c d f g h p1 j)/\
 (∀ a:Nat->Bool,a 1=false->∀ b d f g h i j k,e a b d f g h i j k->
 e (ao a 1) b d f g h c j k)/\
 (∀ a:Nat->Bool,a 2=false->a 0=true->a 1=true->∀ b c d f g h i j,e a b c d f g h i j->
 RR (sOp (.indexAddr 85 (.const i) (.const h)) 0) j fun g j=>
 e (ao a 2) b c d f g h i j)/\
 (∀ a:Nat->Bool,a 3=false->a 2=true->∀ b c d f g h i j,e a b c d f g h i j->
 RR (sOp (.load 3 (.const g)) 3) j fun f j=>
 e (ao a 3) b c d f g h i j)/\
 (∀ b:Nat->Bool,b 4=false->∀ c d f g h i j k,e b c d f g h i j k->
 RR (sOp (.fieldAddr 25 (.const a) 1) 0) k fun a f=>
 e (ao b 4) c d a g h i j f)/\
 (∀ a:Nat->Bool,a 5=false->a 4=true->∀ b c d f g h i j,e a b c d f g h i j->
 RR (sOp (.load 3 (.const d)) 3) j fun c j=>
 e (ao a 5) b c d f g h i j)/\
 (∀ a:Nat->Bool,a 6=false->a 3=true->a 5=true->∀ b c d f g h i j,e a b c d f g h i j->
 RR (av .eql 3 false false f c) j fun b j=>
 e (ao a 6) b c d f g h i j)/\
 True)/\
 ∀ a:Nat->Bool,a 6=true->a 5=true->a 4=true->a 3=true->a 2=true->a 1=true->a 0=true->∀ f g h i j k l m,e a f g h i j k l m->
 CondV f (
 RR (sOp (.fieldAddr 25 (.const d) 1) 0) m fun a d=>
 RR (sOp (.store 3 (.const a) (.const c)) 0) d fun _ a=>
 b a) (
 b m)))/\
 ∀ _ _ _ _ _ _ _ _ _:Value,∀ a:World,b a->
 RR (av .add 3 false true c (.int .i64 1)) a fun a b=>
 e a b/\f a b<f c n)) (
 (∃ (c:Value->World->Prop) (e:Value->World->Nat),c (.int .i64 0) q/\
 ∀ f _ _ g h i j k l m n o p q r _ _ _ _ _:Value,∀ s:World,c f s->
 RR (sOp (.fieldAddr 25 (.const a) 3) 0) s fun t u=>
 RR (sOp (.load 23 (.const t)) 23) u fun t u=>
 RR (aE .len #[23] 3 [false] [t]) u fun t u=>
 RR (av .lss 3 false false f t) u fun t u=>
 CondV t (
 (∃ b:(Nat->Bool)->Value->Value->Value->Value->Value->Value->Value->Value->Value->Value->Value->Value->World->Prop,b (fun _=>false) g h i j k l m n o p q r { u with drawn:=u.drawn+1 }/\(
 (∀ a:Nat->Bool,a 0=false->∀ c e f g h i j k l m n o p,b a c e f g h i j k l m n o p->
 RR (sOp (.fieldAddr 25 (.const d) 3) 0) p fun d o=>
 b (ao a 0) c e f g h i j k l m n d o)/\
 (∀ a:Nat->Bool,a 1=false->a 0=true->∀ c d e f g h i j k l m n o,b a c d e f g h i j k l m n o->
 RR (sOp (.load 23 (.const n)) 23) o fun m o=>
 b (ao a 1) c d e f g h i j k l m n o)/\
 (∀ c:Nat->Bool,c 2=false->∀ d e f g h i j k l m n o p,b c d e f g h i j k l m n o p->
 RR (sOp (.fieldAddr 25 (.const a) 3) 0) p fun a m=>
 b (ao c 2) d e f g h i j k l a n o m)/\
 (∀ a:Nat->Bool,a 3=false->a 2=true->∀ c d e f g h i j k l m n o,b a c d e f g h i j k l m n o->
 RR (sOp (.load 23 (.const l)) 23) o fun k o=>
 b (ao a 3) c d e f g h i j k l m n o)/\
 (∀ a:Nat->Bool,a 4=false->∀ c d e g h i j k l m n o p,b a c d e g h i j k l m n o p->
 b (ao a 4) c d e g h i j f l m n o p)/\
 (∀ a:Nat->Bool,a 5=false->a 3=true->a 4=true->∀ c d e f g h i j k l m n o,b a c d e f g h i j k l m n o->
 RR (sOp (.indexAddr 23 (.const k) (.const j)) 0) o fun i o=>
 b (ao a 5) c d e f g h i j k l m n o)/\
 (∀ a:Nat->Bool,a 6=false->a 5=true->∀ c d e f g h i j k l m n o,b a c d e f g h i j k l m n o->
 RR (sOp (.load 25 (.const i)) 25) o fun h o=>
 b (ao a 6) c d e f g h i j k l m n o)/\
 (∀ a:Nat->Bool,a 7=false->∀ c d e f g h i j k l m n o,b a c d e f g h i j k l m n o->
 b (ao a 7) c d e f p1 h i j k l m n o)/\
 (∀ a:Nat->Bool,a 8=false->a 6=true->a 7=true->∀ c d e f g h i j k l m n o,b a c d e f g h i j k l m n o->
 RR (aF (.func (.func 87) #[] #[]) [h,g]) o fun f o=>
 b (ao a 8) c d e f g h i j k l m n o)/\
 (∀ a:Nat->Bool,a 9=false->a 8=true->∀ c d e f g h i j k l m n o,b a c d e f g h i j k l m n o->
 RR (aQ 23 1 [(0,f)]) o fun e o=>
 b (ao a 9) c d e f g h i j k l m n o)/\
 (∀ a:Nat->Bool,a 10=false->a 1=true->a 9=true->a 8=true->∀ c d e f g h i j k l m n o,b a c d e f g h i j k l m n o->
 RR (aE .append #[23,23] 23 [false,false] [m,e]) o fun d o=>
 b (ao a 10) c d e f g h i j k l m n o)/\
 (∀ a:Nat->Bool,a 11=false->a 0=true->a 1=true->a 2=true->a 3=true->a 4=true->a 5=true->a 6=true->a 7=true->a 8=true->a 9=true->a 10=true->∀ c e f g h i j k l m n o p,b a c e f g h i j k l m n o p->
 RR (sOp (.fieldAddr 25 (.const d) 3) 0) p fun c d=>
 b (ao a 11) c e f g h i j k l m n o d)/\
 (∀ a:Nat->Bool,a 12=false->a 11=true->a 10=true->a 10=true->a 0=true->a 1=true->a 2=true->a 3=true->a 4=true->a 5=true->a 6=true->a 7=true->a 8=true->a 9=true->a 10=true->∀ c d e f g h i j k l m n o,b a c d e f g h i j k l m n o->
 RR (sOp (.store 23 (.const c) (.const d)) 0) o fun _ o=>
 b (ao a 12) c d e f g h i j k l m n o)/\
 True)/\
 ∀ a:Nat->Bool,a 12=true->a 11=true->a 10=true->a 9=true->a 8=true->a 7=true->a 6=true->a 5=true->a 4=true->a 3=true->a 2=true->a 1=true->a 0=true->∀ d g h i j k l m n o p q r,b a d g h i j k l m n o p q r->
 RR (av .add 3 false true f (.int .i64 1)) r fun a b=>
 c a b/\e a b<e f s)) (
 RR (sOp (.load 25 (.const d)) 25) u fun a c=>
 RR (sOp (.store 25 (.const b) (.const a)) 0) c fun _ a=>
 (a4 Tryz.prog 25 b a fun b=>R (.returned b) a))))))
theorem tH {p0 p1:Value} {w:World} {R:Ending->World->Prop} (h:pr p0 p1 w R):Calls Tryz.prog 87 #[p0,p1] w R:=
  aK (.seq none .leaf (.seq none .leaf (.seq none (.seq none .leaf (.one (.loop [6] (.seq none (.seq (some [23]) .leaf .leaf) (.seq (some []) .leaf .leaf))))) (.seq none (.seq none .leaf (.one (.loop [7] .leaf))) .leaf)))) [p0,p1] bp Tryz.func87 (by kernel_rfl) (by kernel_rfl) h


/- loop.example/prologserver/impl.within : function 88 -/
def vI (p0 p1 p2:Value) (w:World) (R:Ending->World->Prop):Prop:=
 RR (av .leq 3 false false p1 p0) w fun a b=>
 ai a true (
 RR (av .leq 3 false false p0 p2) b fun b c=>
 RR (sOp (.pick (.const a) (.const b) (.const (.bool false))) 4) c fun a b=>
 R (.returned a) b) (
 RR (sOp (.pick (.const a) (.const undef) (.const (.bool false))) 4) b fun a b=>
 R (.returned a) b)
theorem yT {p0 p1 p2:Value} {w:World} {R:Ending->World->Prop} (h:vI p0 p1 p2 w R):Calls Tryz.prog 88 #[p0,p1,p2] w R:=
  aK .leaf [p0,p1,p2] bp Tryz.func88 (by kernel_rfl) (by kernel_rfl) h


/- loop.example/prologserver/impl.NameValid : function 89 -/
def nV (p0:Value) (w:World) (R:Ending->World->Prop):Prop:=
 RR (aF (.func (.func 59) #[] #[]) [p0]) w fun a b=>
 ai a false (
 RR (aF (.func (.func 106) #[] #[]) []) b fun b c=>
 RR (aF (.func (.func 105) #[] #[]) [b,p0]) c fun b c=>
 RR (sOp (.pick (.const a) (.const (.bool true)) (.const b)) 4) c fun a b=>
 R (.returned a) b) (
 RR (sOp (.pick (.const a) (.const (.bool true)) (.const undef)) 4) b fun a b=>
 R (.returned a) b)
theorem rZ {p0:Value} {w:World} {R:Ending->World->Prop} (h:nV p0 w R):Calls Tryz.prog 89 #[p0] w R:=
  aK .leaf [p0] bp Tryz.func89 (by kernel_rfl) (by kernel_rfl) h


/- loop.example/prologserver/impl.scan$1 : function 90 -/
def u3 (p0 p1 p2:Value) (w:World) (R:Ending->World->Prop):Prop:=
 RR (sOp (.box 25 (.const p0)) 0) w fun a b=>
 RR (sOp (.load 25 (.const a)) 25) b fun a b=>
 RR (sOp (.load 3 (.const p1)) 3) b fun b c=>
 RR (av .add 3 false true b (.int .i64 1)) c fun b c=>
 RR (sOp (.load 77 (.const p2)) 77) c fun c d=>
 RR (aF (.func (.func 54) #[] #[]) [a,b,c]) d fun a b=>
 RR (sOp (.unOp .not 4 (.const a)) 4) b fun a b=>
 R (.returned a) b
theorem xw {p0 p1 p2:Value} {w:World} {R:Ending->World->Prop} (h:u3 p0 p1 p2 w R):Calls Tryz.prog 90 #[p0,p1,p2] w R:=
  aK .leaf [p0,p1,p2] bp Tryz.func90 (by kernel_rfl) (by kernel_rfl) h


/- loop.example/prologserver/impl.varsOf : function 91 -/
def vZ (p0:Value) (w:World) (R:Ending->World->Prop):Prop:=
 RR (aE .len #[23] 3 [false] [p0]) w fun a b=>
 (∃ (c:Value->Value->World->Prop) (d:Value->Value->World->Nat),c (.int .i64 0) (Value.slice none 0 0) b/\
 ∀ b _ e _ _ _ _ _ _ _:Value,∀ f:World,c b e f->
 RR (av .lss 3 false false b a) f fun a g=>
 CondV a (
 RR (sOp (.indexAddr 23 (.const p0) (.const b)) 0) g fun a g=>
 RR (sOp (.load 25 (.const a)) 25) g fun a g=>
 RR (sOp (.alloc 25) 0) g fun g h=>
 RR (sOp (.store 25 (.const g) (.const a)) 0) h fun _ a=>
 RR (sOp (.load 25 (.const g)) 25) a fun a g=>
 RR (aF (.func (.func 107) #[] #[]) [a,e]) g fun a g=>
 RR (av .add 3 false true b (.int .i64 1)) g fun g h=>
 c g a h/\d g a h<d b e f) (
 R (.returned e) g))
theorem yB {p0:Value} {w:World} {R:Ending->World->Prop} (h:vZ p0 w R):Calls Tryz.prog 91 #[p0] w R:=
  aK (.seq none .leaf (.seq none .leaf (.seq none (.seq none .leaf (.one (.loop [8,3] .leaf))) .leaf))) [p0] bp Tryz.func91 (by kernel_rfl) (by kernel_rfl) h


/- loop.example/prologserver/impl.renumbered$1 : function 92 -/
def kH (p0 p1:Value) (w:World) (R:Ending->World->Prop):Prop:=
 RR (sOp (.alloc 25) 0) w fun a b=>
 RR (sOp (.load 85 (.const p1)) 85) b fun b c=>
 RR (aF (.func (.func 93) #[] #[]) [b,p0]) c fun b c=>
 RR (aF (.func (.func 42) #[] #[]) [b]) c fun b c=>
 RR (sOp (.store 25 (.const a) (.const b)) 0) c fun _ b=>
 (a4 Tryz.prog 25 a b fun a=>R (.returned a) b)
theorem nQ {p0 p1:Value} {w:World} {R:Ending->World->Prop} (h:kH p0 p1 w R):Calls Tryz.prog 92 #[p0,p1] w R:=
  aK .leaf [p0,p1] bp Tryz.func92 (by kernel_rfl) (by kernel_rfl) h


/- slices.Index[[]int,int] : function 93 -/
def ol (p0 p1:Value) (w:World) (R:Ending->World->Prop):Prop:=
 RR (aE .len #[85] 3 [false] [p0]) w fun a b=>
 (∃ (c:Value->World->Prop) (d:Value->World->Nat),c (.int .i64 0) b/\
 ∀ b _ _ _ _ _ _ _ _ _ _ _ _:Value,∀ e:World,c b e->
 RR (av .lss 3 false false b a) e fun a f=>
 CondV a (
 RR (sOp (.indexAddr 85 (.const p0) (.const b)) 0) f fun a f=>
 RR (sOp (.load 3 (.const a)) 3) f fun a f=>
 RR (av .eql 3 false false p1 a) f fun a f=>
 CondV a (
 R (.returned b) f) (
 RR (av .add 3 false true b (.int .i64 1)) f fun a f=>
 c a f/\d a f<d b e)) (
 R (.returned (.int .i64 (-1))) f))
theorem rB {p0 p1:Value} {w:World} {R:Ending->World->Prop} (h:ol p0 p1 w R):Calls Tryz.prog 93 #[p0,p1] w R:=
  aK (.seq none .leaf (.seq none (.seq none .leaf (.one (.loop [8] .leaf))) .leaf)) [p0,p1] bp Tryz.func93 (by kernel_rfl) (by kernel_rfl) h


/- loop.example/prologserver/impl.OpLevel : function 94 -/
def sj (p0:Value) (w:World) (R:Ending->World->Prop):Prop:=
 (∃ a:Value->World->Prop,(
 RR (av .eql 9 false true p0 (.string ⟨#[61]⟩)) w fun b c=>
 CondV b (
 a b c) (
 RR (av .eql 9 false true p0 (.string ⟨#[92,61]⟩)) c fun b c=>
 CondV b (
 a b c) (
 RR (av .eql 9 false true p0 (.string ⟨#[61,61]⟩)) c fun b c=>
 CondV b (
 a b c) (
 RR (av .eql 9 false true p0 (.string ⟨#[60]⟩)) c fun b c=>
 CondV b (
 a b c) (
 RR (av .eql 9 false true p0 (.string ⟨#[62]⟩)) c fun b c=>
 CondV b (
 a b c) (
 RR (av .eql 9 false true p0 (.string ⟨#[61,60]⟩)) c fun b c=>
 CondV b (
 a b c) (
 RR (av .eql 9 false true p0 (.string ⟨#[62,61]⟩)) c fun b c=>
 CondV b (
 a b c) (
 RR (av .eql 9 false true p0 (.string ⟨#[61,58,61]⟩)) c fun b c=>
 CondV b (
 a b c) (
 RR (av .eql 9 false true p0 (.string ⟨#[105,115]⟩)) c fun b c=>
 a b c)))))))))/\
 ∀ _ _ _ _ _ _ _ _ b _:Value,∀ c:World,a b c->
 CondV b (
 R (.returned (.tuple #[(.int .i64 3),(.bool false)])) c) (
 (∃ a:Value->World->Prop,(
 RR (av .eql 9 false true p0 (.string ⟨#[43]⟩)) c fun b c=>
 CondV b (
 a b c) (
 RR (av .eql 9 false true p0 (.string ⟨#[45]⟩)) c fun b c=>
 a b c))/\
 ∀ _ b _:Value,∀ c:World,a b c->
 CondV b (
 R (.returned (.tuple #[(.int .i64 2),(.bool true)])) c) (
 (∃ a:Value->World->Prop,(
 RR (av .eql 9 false true p0 (.string ⟨#[42]⟩)) c fun b c=>
 CondV b (
 a b c) (
 RR (av .eql 9 false true p0 (.string ⟨#[47,47]⟩)) c fun b c=>
 CondV b (
 a b c) (
 RR (av .eql 9 false true p0 (.string ⟨#[109,111,100]⟩)) c fun b c=>
 a b c)))/\
 ∀ _ _ b _:Value,∀ c:World,a b c->
 CondV b (
 R (.returned (.tuple #[(.int .i64 1),(.bool true)])) c) (
 R (.returned (.tuple #[(.int .i64 0),(.bool false)])) c))))))
theorem wq {p0:Value} {w:World} {R:Ending->World->Prop} (h:sj p0 w R):Calls Tryz.prog 94 #[p0] w R:=
  aK (.seq none .leaf (.seq none (.seq none .leaf (.one (.seq (some [5]) .leaf (.two .leaf (.seq (some [15]) .leaf (.two .leaf (.seq (some [18]) .leaf .leaf))))))) .leaf)) [p0] bp Tryz.func94 (by kernel_rfl) (by kernel_rfl) h


/- loop.example/prologserver/impl.IsBuiltin : function 95 -/
def n4 (p0 p1:Value) (w:World) (R:Ending->World->Prop):Prop:=
 (∃ a:Value->World->Prop,(
 RR (av .eql 9 false true p0 (.string ⟨#[61]⟩)) w fun b c=>
 CondV b (
 a b c) (
 RR (av .eql 9 false true p0 (.string ⟨#[92,61]⟩)) c fun b c=>
 CondV b (
 a b c) (
 RR (av .eql 9 false true p0 (.string ⟨#[61,61]⟩)) c fun b c=>
 CondV b (
 a b c) (
 RR (av .eql 9 false true p0 (.string ⟨#[60]⟩)) c fun b c=>
 CondV b (
 a b c) (
 RR (av .eql 9 false true p0 (.string ⟨#[62]⟩)) c fun b c=>
 CondV b (
 a b c) (
 RR (av .eql 9 false true p0 (.string ⟨#[61,60]⟩)) c fun b c=>
 CondV b (
 a b c) (
 RR (av .eql 9 false true p0 (.string ⟨#[62,61]⟩)) c fun b c=>
 CondV b (
 a b c) (
 RR (av .eql 9 false true p0 (.string ⟨#[61,58,61]⟩)) c fun b c=>
 CondV b (
 a b c) (
 RR (av .eql 9 false true p0 (.string ⟨#[105,115]⟩)) c fun b c=>
 a b c)))))))))/\
 ∀ _ _ _ _ _ _ _ _ b _:Value,∀ c:World,a b c->
 CondV b (
 RR (av .eql 3 false true p1 (.int .i64 2)) c fun a b=>
 R (.returned a) b) (
 (∃ a:Value->World->Prop,(
 RR (av .eql 9 false true p0 (.string ⟨#[116,114,117,101]⟩)) c fun b c=>
 CondV b (
 a b c) (
 RR (av .eql 9 false true p0 (.string ⟨#[102,97,105,108]⟩)) c fun b c=>
 a b c))/\
 ∀ _ b _:Value,∀ c:World,a b c->
 CondV b (
 RR (av .eql 3 false true p1 (.int .i64 0)) c fun a b=>
 R (.returned a) b) (
 (∃ a:Value->World->Prop,(
 RR (av .eql 9 false true p0 (.string ⟨#[118,97,114]⟩)) c fun b c=>
 CondV b (
 a b c) (
 RR (av .eql 9 false true p0 (.string ⟨#[110,111,110,118,97,114]⟩)) c fun b c=>
 CondV b (
 a b c) (
 RR (av .eql 9 false true p0 (.string ⟨#[97,116,111,109]⟩)) c fun b c=>
 CondV b (
 a b c) (
 RR (av .eql 9 false true p0 (.string ⟨#[105,110,116]⟩)) c fun b c=>
 a b c))))/\
 ∀ _ _ _ b _:Value,∀ c:World,a b c->
 CondV b (
 RR (av .eql 3 false true p1 (.int .i64 1)) c fun a b=>
 R (.returned a) b) (
 RR (av .eql 9 false true p0 (.string ⟨#[97,114,103]⟩)) c fun a b=>
 CondV a (
 RR (av .eql 3 false true p1 (.int .i64 3)) b fun a b=>
 R (.returned a) b) (
 R (.returned (.bool false)) b)))))))
theorem qV {p0 p1:Value} {w:World} {R:Ending->World->Prop} (h:n4 p0 p1 w R):Calls Tryz.prog 95 #[p0,p1] w R:=
  aK (.seq none .leaf (.seq none (.seq none .leaf (.one (.seq (some [6]) .leaf (.two .leaf (.seq (some [18]) .leaf (.two .leaf (.seq (some [23]) .leaf .leaf))))))) .leaf)) [p0,p1] bp Tryz.func95 (by kernel_rfl) (by kernel_rfl) h


/- slices.IndexFunc[[]loop.example/prologserver/impl.Term,loop.example/prologserver/impl.Term] : function 96 -/
def gH (p0 p1:Value) (w:World) (R:Ending->World->Prop):Prop:=
 RR (aE .len #[23] 3 [false] [p0]) w fun a b=>
 (∃ (c:Value->World->Prop) (d:Value->World->Nat),c (.int .i64 0) b/\
 ∀ b _ _ _ _ _ _ _ _ _ _ _ _:Value,∀ e:World,c b e->
 RR (av .lss 3 false false b a) e fun a f=>
 CondV a (
 RR (sOp (.indexAddr 23 (.const p0) (.const b)) 0) f fun a f=>
 RR (sOp (.load 25 (.const a)) 25) f fun a f=>
 RR (aF p1 [a]) f fun a f=>
 CondV a (
 R (.returned b) f) (
 RR (av .add 3 false true b (.int .i64 1)) f fun a f=>
 c a f/\d a f<d b e)) (
 R (.returned (.int .i64 (-1))) f))
theorem ii {p0 p1:Value} {w:World} {R:Ending->World->Prop} (h:gH p0 p1 w R):Calls Tryz.prog 96 #[p0,p1] w R:=
  aK (.seq none .leaf (.seq none (.seq none .leaf (.one (.loop [8] .leaf))) .leaf)) [p0,p1] bp Tryz.func96 (by kernel_rfl) (by kernel_rfl) h


/- loop.example/prologserver/impl.isCut : function 97 -/
def y7 (p0:Value) (w:World) (R:Ending->World->Prop):Prop:=
 RR (sOp (.box 25 (.const p0)) 0) w fun a b=>
 RR (sOp (.load 25 (.const a)) 25) b fun b c=>
 RR (aF (.func (.func 108) #[] #[]) [b]) c fun b c=>
 ai b true (
 RR (sOp (.fieldAddr 25 (.const a) 2) 0) c fun a c=>
 RR (sOp (.load 9 (.const a)) 9) c fun a c=>
 RR (av .eql 9 false true a (.string ⟨#[33]⟩)) c fun a c=>
 RR (sOp (.pick (.const b) (.const a) (.const (.bool false))) 4) c fun a b=>
 R (.returned a) b) (
 RR (sOp (.pick (.const b) (.const undef) (.const (.bool false))) 4) c fun a b=>
 R (.returned a) b)
theorem z2 {p0:Value} {w:World} {R:Ending->World->Prop} (h:y7 p0 w R):Calls Tryz.prog 97 #[p0] w R:=
  aK .leaf [p0] bp Tryz.func97 (by kernel_rfl) (by kernel_rfl) h


/- loop.example/prologserver/spec.l2Read : function 98 -/
def vG (p0 p1 p2 p3:Value) (w:World) (R:Ending->World->Prop):Prop:=
 RR (sOp (.alloc 25) 0) w fun a b=>
 RR (av .eql 3 false true p3 (.int .i64 0)) b fun b c=>
 CondV b (
 RR (aF (.func (.func 109) #[] #[]) [p0,p1,p2]) c fun b c=>
 RR (sOp (.extract (.const b) 0) 25) c fun c d=>
 RR (sOp (.extract (.const b) 1) 3) d fun b d=>
 RR (sOp (.store 25 (.const a) (.const c)) 0) d fun _ c=>
 (a4 Tryz.prog 25 a c fun a=>R (.returned (.tuple #[a,b])) c)) (
 RR (av .sub 3 false true p3 (.int .i64 1)) c fun b c=>
 RR (aF (.func (.func 98) #[] #[]) [p0,p1,p2,b]) c fun b c=>
 RR (sOp (.extract (.const b) 0) 25) c fun c d=>
 RR (sOp (.extract (.const b) 1) 3) d fun b d=>
 RR (sOp (.alloc 25) 0) d fun d e=>
 RR (sOp (.store 25 (.const d) (.const c)) 0) e fun _ c=>
 (∃ (e:Value->World->Prop) (f:Value->World->Nat),e b c/\
 ∀ _ _ _ _ b _ _ _ _ _ _ _ _ _ _ _ _ _ _ _ _ _ _ _ _ _ _ _ _ _ _ _ _ _ _ _ _ _ _ _ _ _ _ _ _ _ _:Value,∀ c:World,e b c->
 RR (av .geq 3 false true b (.int .i64 0)) c fun g h=>
 CondV g (
 RR (aF (.func (.func 110) #[] #[]) [p0,b]) h fun g h=>
 RR (sOp (.extract (.const g) 0) 9) h fun h i=>
 RR (sOp (.extract (.const g) 1) 3) i fun g i=>
 (∃ j:Value->World->Prop,(
 RR (av .eql 9 false true h (.string ⟨#[]⟩)) i fun a b=>
 ai a false (
 RR (aF (.func (.func 80) #[] #[]) [h]) b fun b c=>
 RR (av .neq 3 false false b p3) c fun b c=>
 RR (sOp (.pick (.const a) (.const (.bool true)) (.const b)) 4) c fun a b=>
 j a b) (
 RR (sOp (.pick (.const a) (.const (.bool true)) (.const undef)) 4) b fun a b=>
 j a b))/\
 ∀ i _ _ _ _ _ _ _:Value,∀ k:World,j i k->
 CondV i (
 RR (sOp (.load 25 (.const d)) 25) k fun c d=>
 RR (sOp (.store 25 (.const a) (.const c)) 0) d fun _ c=>
 (a4 Tryz.prog 25 a c fun a=>R (.returned (.tuple #[a,b])) c)) (
 RR (av .sub 3 false true p3 (.int .i64 1)) k fun i j=>
 RR (aF (.func (.func 98) #[] #[]) [p0,g,p2,i]) j fun g i=>
 RR (sOp (.extract (.const g) 0) 25) i fun i j=>
 RR (sOp (.extract (.const g) 1) 3) j fun g j=>
 RR (sOp (.alloc 25) 0) j fun j k=>
 RR (sOp (.store 25 (.const j) (.const i)) 0) k fun _ i=>
 RR (av .lss 3 false true g (.int .i64 0)) i fun i k=>
 CondV i (
 RR (bP 25 []) k fun b c=>
 RR (sOp (.store 25 (.const a) (.const b)) 0) c fun _ b=>
 (a4 Tryz.prog 25 a b fun a=>R (.returned (.tuple #[a,g])) b)) (
 RR (sOp (.load 25 (.const d)) 25) k fun i k=>
 RR (sOp (.load 25 (.const j)) 25) k fun j k=>
 RR (aQ 23 2 [(0,i),(1,j)]) k fun i j=>
 RR (aF (.func (.func 38) #[] #[]) [h,i]) j fun h i=>
 RR (sOp (.store 25 (.const d) (.const h)) 0) i fun _ h=>
 RR (av .eql 3 false true p3 (.int .i64 3)) h fun h i=>
 CondV h (
 RR (sOp (.load 25 (.const d)) 25) i fun b c=>
 RR (sOp (.store 25 (.const a) (.const b)) 0) c fun _ b=>
 (a4 Tryz.prog 25 a b fun a=>R (.returned (.tuple #[a,g])) b)) (
 e g i/\f g i<f b c))))) (
 RR (bP 25 []) h fun c d=>
 RR (sOp (.store 25 (.const a) (.const c)) 0) d fun _ c=>
 (a4 Tryz.prog 25 a c fun a=>R (.returned (.tuple #[a,b])) c))))
theorem xJ {p0 p1 p2 p3:Value} {w:World} {R:Ending->World->Prop} (h:vG p0 p1 p2 p3 w R):Calls Tryz.prog 98 #[p0,p1,p2,p3] w R:=
  aK (.seq none .leaf (.seq none .leaf (.seq none .leaf (.seq none (.one (.loop [11] (.seq none .leaf (.one (.seq none .leaf (.seq none (.seq (some [48]) .leaf .leaf) .leaf)))))) .leaf)))) [p0,p1,p2,p3] bp Tryz.func98 (by kernel_rfl) (by kernel_rfl) h


/- loop.example/prologserver/spec.l1Sign : function 99 -/
def uT (p0 p1 p2:Value) (w:World) (R:Ending->World->Prop):Prop:=
 RR (av .geq 3 false true p1 (.int .i64 0)) w fun a b=>
 ((fun c:VW=>ai a true (
 RR (aE .len #[9] 3 [false] [p0]) b fun b d=>
 RR (av .lss 3 false false p1 b) d fun b d=>
 RR (sOp (.pick (.const a) (.const b) (.const (.bool false))) 4) d fun a b=>c a b) (
 RR (sOp (.pick (.const a) (.const undef) (.const (.bool false))) 4) b fun a b=>c a b)) fun a b=>
 ai a true (
 RR (sOp (.index 9 (.const p0) (.const p1)) 5) b fun b c=>
 RR (av .eql 5 false false b p2) c fun b c=>
 RR (sOp (.pick (.const a) (.const b) (.const (.bool false))) 4) c fun a b=>
 R (.returned a) b) (
 RR (sOp (.pick (.const a) (.const undef) (.const (.bool false))) 4) b fun a b=>
 R (.returned a) b))
theorem xY {p0 p1 p2:Value} {w:World} {R:Ending->World->Prop} (h:uT p0 p1 p2 w R):Calls Tryz.prog 99 #[p0,p1,p2] w R:=
  aK .leaf [p0,p1,p2] bp Tryz.func99 (by kernel_rfl) (by kernel_rfl) h


/- loop.example/prologserver/spec.FormatClause : function 100 -/
def kC (p0:Value) (w:World) (R:Ending->World->Prop):Prop:=
 RR (sOp (.box 27 (.const p0)) 0) w fun a b=>
 RR (sOp (.load 27 (.const a)) 27) b fun b c=>
 RR (aF (.func (.func 19) #[] #[]) [b]) c fun b c=>
 RR (sOp (.unOp .not 4 (.const b)) 4) c fun b c=>
 CondV b (
 R (.returned (.string ⟨#[]⟩)) c) (
 RR (sOp (.load 27 (.const a)) 27) c fun a b=>
 RR (aF (.func (.func 111) #[] #[]) [a]) b fun a b=>
 R (.returned a) b)
theorem oy {p0:Value} {w:World} {R:Ending->World->Prop} (h:kC p0 w R):Calls Tryz.prog 100 #[p0] w R:=
  aK .leaf [p0] bp Tryz.func100 (by kernel_rfl) (by kernel_rfl) h


/- loop.example/prologserver/spec.l1Var : function 101 -/
def yX (p0:Value) (w:World) (R:Ending->World->Prop):Prop:=
 RR (sOp (.alloc 25) 0) w fun a b=>
 RR (bP 25 [(0,(.int .i64 1)),(1,p0)]) b fun b c=>
 RR (sOp (.store 25 (.const a) (.const b)) 0) c fun _ b=>
 (a4 Tryz.prog 25 a b fun a=>R (.returned a) b)
theorem z6 {p0:Value} {w:World} {R:Ending->World->Prop} (h:yX p0 w R):Calls Tryz.prog 101 #[p0] w R:=
  aK .leaf [p0] bp Tryz.func101 (by kernel_rfl) (by kernel_rfl) h


/- (*loop.example/prologserver/impl.store).occurs : function 102 -/
def ki (p0 p1 p2 p3:Value) (w:World) (R:Ending->World->Prop):Prop:=
 RR (sOp (.box 65 (.const p0)) 0) w fun a b=>
 RR (sOp (.box 3 (.const p1)) 0) b fun b c=>
 RR (sOp (.box 25 (.const p2)) 0) c fun c d=>
 RR (sOp (.box 112 (.const p3)) 0) d fun d e=>
 RR (sOp (.fieldAddr 25 (.const c) 0) 0) e fun e f=>
 RR (sOp (.load 3 (.const e)) 3) f fun e f=>
 RR (av .eql 3 false true e (.int .i64 1)) f fun e f=>
 CondV e (
 RR (sOp (.load 112 (.const d)) 112) f fun e f=>
 RR (sOp (.fieldAddr 25 (.const c) 1) 0) f fun f g=>
 RR (sOp (.load 3 (.const f)) 3) g fun f g=>
 RR (sOp (.lookup 112 (.const e) (.const f) false) 4) g fun e f=>
 CondV e (
 R (.returned (.bool false)) f) (
 RR (sOp (.load 112 (.const d)) 112) f fun e f=>
 RR (sOp (.fieldAddr 25 (.const c) 1) 0) f fun f g=>
 RR (sOp (.load 3 (.const f)) 3) g fun f g=>
 RR (sOp (.mapUpdate 112 (.const e) (.const f) (.const (.bool true))) 0) g fun _ e=>
 RR (sOp (.load 65 (.const a)) 65) e fun e f=>
 RR (sOp (.load 25 (.const c)) 25) f fun c f=>
 RR (aF (.func (.func 72) #[] #[]) [e,c]) f fun c e=>
 RR (sOp (.alloc 25) 0) e fun e f=>
 RR (sOp (.store 25 (.const e) (.const c)) 0) f fun _ c=>
 RR (sOp (.fieldAddr 25 (.const e) 0) 0) c fun c f=>
 RR (sOp (.load 3 (.const c)) 3) f fun c f=>
 RR (av .eql 3 false true c (.int .i64 1)) f fun c f=>
 CondV c (
 RR (sOp (.fieldAddr 25 (.const e) 1) 0) f fun a c=>
 RR (sOp (.load 3 (.const a)) 3) c fun a c=>
 RR (sOp (.load 3 (.const b)) 3) c fun b c=>
 RR (av .eql 3 false false a b) c fun a b=>
 R (.returned a) b) (
 RR (sOp (.load 65 (.const a)) 65) f fun a c=>
 RR (sOp (.load 3 (.const b)) 3) c fun b c=>
 RR (sOp (.load 25 (.const e)) 25) c fun c e=>
 RR (sOp (.load 112 (.const d)) 112) e fun d e=>
 RR (aF (.func (.func 102) #[] #[]) [a,b,c,d]) e fun a b=>
 R (.returned a) b))) (
 RR (sOp (.fieldAddr 25 (.const c) 3) 0) f fun c e=>
 RR (sOp (.load 23 (.const c)) 23) e fun c e=>
 RR (iH (.func 112) [] [a,b,d]) e fun a b=>
 RR (aF (.func (.func 62) #[] #[]) [c,a]) b fun a b=>
 R (.returned a) b)
theorem oJ {p0 p1 p2 p3:Value} {w:World} {R:Ending->World->Prop} (h:ki p0 p1 p2 p3 w R):Calls Tryz.prog 102 #[p0,p1,p2,p3] w R:=
  aK .leaf [p0,p1,p2,p3] bp Tryz.func102 (by kernel_rfl) (by kernel_rfl) h


/- loop.example/prologserver/spec.l4Cut : function 103 -/
def yL (p0:Value) (w:World) (R:Ending->World->Prop):Prop:=
 RR (sOp (.box 25 (.const p0)) 0) w fun a b=>
 RR (sOp (.fieldAddr 25 (.const a) 0) 0) b fun b c=>
 RR (sOp (.load 3 (.const b)) 3) c fun b c=>
 RR (av .eql 3 false true b (.int .i64 3)) c fun b c=>
 ((fun d:VW=>ai b true (
 RR (sOp (.fieldAddr 25 (.const a) 2) 0) c fun a c=>
 RR (sOp (.load 9 (.const a)) 9) c fun a c=>
 RR (av .eql 9 false true a (.string ⟨#[33]⟩)) c fun a c=>
 RR (sOp (.pick (.const b) (.const a) (.const (.bool false))) 4) c fun a b=>d a b) (
 RR (sOp (.pick (.const b) (.const undef) (.const (.bool false))) 4) c fun a b=>d a b)) fun b c=>
 ai b true (
 RR (sOp (.fieldAddr 25 (.const a) 3) 0) c fun a c=>
 RR (sOp (.load 23 (.const a)) 23) c fun a c=>
 RR (aE .len #[23] 3 [false] [a]) c fun a c=>
 RR (av .eql 3 false true a (.int .i64 0)) c fun a c=>
 RR (sOp (.pick (.const b) (.const a) (.const (.bool false))) 4) c fun a b=>
 R (.returned a) b) (
 RR (sOp (.pick (.const b) (.const undef) (.const (.bool false))) 4) c fun a b=>
 R (.returned a) b))
theorem Ag {p0:Value} {w:World} {R:Ending->World->Prop} (h:yL p0 w R):Calls Tryz.prog 103 #[p0] w R:=
  aK .leaf [p0] bp Tryz.func103 (by kernel_rfl) (by kernel_rfl) h


/- loop.example/prologserver/spec.l1Own : function 104 -/
def xO (p0:Value) (w:World) (R:Ending->World->Prop):Prop:=
 RR (sOp (.box 25 (.const p0)) 0) w fun a b=>
 RR (sOp (.fieldAddr 25 (.const a) 0) 0) b fun b c=>
 RR (sOp (.load 3 (.const b)) 3) c fun b c=>
 RR (av .eql 3 false true b (.int .i64 1)) c fun c d=>
 CondV c (
 RR (sOp (.fieldAddr 25 (.const a) 1) 0) d fun b c=>
 RR (sOp (.load 3 (.const b)) 3) c fun b c=>
 RR (av .geq 3 false true b (.int .i64 0)) c fun b c=>
 ((fun d:VW=>ai b true (
 RR (sOp (.fieldAddr 25 (.const a) 1) 0) c fun a c=>
 RR (sOp (.load 3 (.const a)) 3) c fun a c=>
 RR (av .leq 3 false true a (.int .i64 25)) c fun a c=>
 RR (sOp (.pick (.const b) (.const a) (.const (.bool false))) 4) c fun a b=>d a b) (
 RR (sOp (.pick (.const b) (.const undef) (.const (.bool false))) 4) c fun a b=>d a b)) fun b c=>
 ((fun d:VW=>ai b true (
 RR (sOp (.fieldAddr 25 (.const a) 2) 0) c fun a c=>
 RR (sOp (.load 9 (.const a)) 9) c fun a c=>
 RR (av .eql 9 false true a (.string ⟨#[]⟩)) c fun a c=>
 RR (sOp (.pick (.const b) (.const a) (.const (.bool false))) 4) c fun a b=>d a b) (
 RR (sOp (.pick (.const b) (.const undef) (.const (.bool false))) 4) c fun a b=>d a b)) fun b c=>
 ai b true (
 RR (sOp (.fieldAddr 25 (.const a) 3) 0) c fun a c=>
 RR (sOp (.load 23 (.const a)) 23) c fun a c=>
 RR (aE .len #[23] 3 [false] [a]) c fun a c=>
 RR (av .eql 3 false true a (.int .i64 0)) c fun a c=>
 RR (sOp (.pick (.const b) (.const a) (.const (.bool false))) 4) c fun a b=>
 R (.returned a) b) (
 RR (sOp (.pick (.const b) (.const undef) (.const (.bool false))) 4) c fun a b=>
 R (.returned a) b)))) (
 RR (av .eql 3 false true b (.int .i64 2)) d fun c d=>
 CondV c (
 RR (sOp (.fieldAddr 25 (.const a) 1) 0) d fun b c=>
 RR (sOp (.load 3 (.const b)) 3) c fun b c=>
 RR (av .geq 3 false true b (.int .i64 (-999))) c fun b c=>
 ((fun d:VW=>ai b true (
 RR (sOp (.fieldAddr 25 (.const a) 1) 0) c fun a c=>
 RR (sOp (.load 3 (.const a)) 3) c fun a c=>
 RR (av .leq 3 false true a (.int .i64 999)) c fun a c=>
 RR (sOp (.pick (.const b) (.const a) (.const (.bool false))) 4) c fun a b=>d a b) (
 RR (sOp (.pick (.const b) (.const undef) (.const (.bool false))) 4) c fun a b=>d a b)) fun b c=>
 ((fun d:VW=>ai b true (
 RR (sOp (.fieldAddr 25 (.const a) 2) 0) c fun a c=>
 RR (sOp (.load 9 (.const a)) 9) c fun a c=>
 RR (av .eql 9 false true a (.string ⟨#[]⟩)) c fun a c=>
 RR (sOp (.pick (.const b) (.const a) (.const (.bool false))) 4) c fun a b=>d a b) (
 RR (sOp (.pick (.const b) (.const undef) (.const (.bool false))) 4) c fun a b=>d a b)) fun b c=>
 ai b true (
 RR (sOp (.fieldAddr 25 (.const a) 3) 0) c fun a c=>
 RR (sOp (.load 23 (.const a)) 23) c fun a c=>
 RR (aE .len #[23] 3 [false] [a]) c fun a c=>
 RR (av .eql 3 false true a (.int .i64 0)) c fun a c=>
 RR (sOp (.pick (.const b) (.const a) (.const (.bool false))) 4) c fun a b=>
 R (.returned a) b) (
 RR (sOp (.pick (.const b) (.const undef) (.const (.bool false))) 4) c fun a b=>
 R (.returned a) b)))) (
 RR (av .eql 3 false true b (.int .i64 3)) d fun b c=>
 CondV b (
 RR (sOp (.fieldAddr 25 (.const a) 1) 0) c fun b c=>
 RR (sOp (.load 3 (.const b)) 3) c fun b c=>
 RR (av .eql 3 false true b (.int .i64 0)) c fun b c=>
 ((fun d:VW=>ai b true (
 RR (sOp (.fieldAddr 25 (.const a) 2) 0) c fun a c=>
 RR (sOp (.load 9 (.const a)) 9) c fun a c=>
 RR (aF (.func (.func 113) #[] #[]) [a]) c fun a c=>
 RR (sOp (.pick (.const b) (.const a) (.const (.bool false))) 4) c fun a b=>d a b) (
 RR (sOp (.pick (.const b) (.const undef) (.const (.bool false))) 4) c fun a b=>d a b)) fun b c=>
 ai b true (
 RR (sOp (.fieldAddr 25 (.const a) 3) 0) c fun a c=>
 RR (sOp (.load 23 (.const a)) 23) c fun a c=>
 RR (aE .len #[23] 3 [false] [a]) c fun a c=>
 RR (av .leq 3 false true a (.int .i64 4)) c fun a c=>
 RR (sOp (.pick (.const b) (.const a) (.const (.bool false))) 4) c fun a b=>
 R (.returned a) b) (
 RR (sOp (.pick (.const b) (.const undef) (.const (.bool false))) 4) c fun a b=>
 R (.returned a) b))) (
 R (.returned (.bool false)) c)))
theorem zW {p0:Value} {w:World} {R:Ending->World->Prop} (h:xO p0 w R):Calls Tryz.prog 104 #[p0] w R:=
  aK .leaf [p0] bp Tryz.func104 (by kernel_rfl) (by kernel_rfl) h


/- slices.Contains[[]string,string] : function 105 -/
def jb (p0 p1:Value) (w:World) (R:Ending->World->Prop):Prop:=
 RR (aF (.func (.func 114) #[] #[]) [p0,p1]) w fun a b=>
 RR (av .geq 3 false true a (.int .i64 0)) b fun a b=>
 R (.returned a) b
theorem ll {p0 p1:Value} {w:World} {R:Ending->World->Prop} (h:jb p0 p1 w R):Calls Tryz.prog 105 #[p0,p1] w R:=
  aK .leaf [p0,p1] bp Tryz.func105 (by kernel_rfl) (by kernel_rfl) h


/- loop.example/prologserver/impl.symbols : function 106 -/
def sf (w:World) (R:Ending->World->Prop):Prop:=
 RR (aQ 55 15 [(0,(.string ⟨#[43]⟩)),(1,(.string ⟨#[45]⟩)),(2,(.string ⟨#[42]⟩)),(3,(.string ⟨#[47,47]⟩)),(4,(.string ⟨#[61]⟩)),(5,(.string ⟨#[92,61]⟩)),(6,(.string ⟨#[61,61]⟩)),(7,(.string ⟨#[60]⟩)),(8,(.string ⟨#[62]⟩)),(9,(.string ⟨#[61,60]⟩)),(10,(.string ⟨#[62,61]⟩)),(11,(.string ⟨#[61,58,61]⟩)),(12,(.string ⟨#[46]⟩)),(13,(.string ⟨#[91,93]⟩)),(14,(.string ⟨#[33]⟩))]) w fun a b=>
 R (.returned a) b
theorem wo {w:World} {R:Ending->World->Prop} (h:sf w R):Calls Tryz.prog 106 #[] w R:=
  aK .leaf [] bp Tryz.func106 (by kernel_rfl) (by kernel_rfl) h


/- loop.example/prologserver/impl.addVars : function 107 -/
def rJ (p0 p1:Value) (w:World) (R:Ending->World->Prop):Prop:=
 RR (sOp (.box 25 (.const p0)) 0) w fun a b=>
 (∃ c:Value->World->Prop,(
 (∃ d:Value->World->Prop,(
 RR (sOp (.fieldAddr 25 (.const a) 0) 0) b fun b c=>
 RR (sOp (.load 3 (.const b)) 3) c fun b c=>
 RR (av .eql 3 false true b (.int .i64 1)) c fun b c=>
 ai b true (
 RR (sOp (.fieldAddr 25 (.const a) 1) 0) c fun a c=>
 RR (sOp (.load 3 (.const a)) 3) c fun a c=>
 RR (aF (.func (.func 115) #[] #[]) [p1,a]) c fun a c=>
 RR (sOp (.unOp .not 4 (.const a)) 4) c fun a c=>
 RR (sOp (.pick (.const b) (.const a) (.const (.bool false))) 4) c fun a b=>
 d a b) (
 RR (sOp (.pick (.const b) (.const undef) (.const (.bool false))) 4) c fun a b=>
 d a b))/\
 ∀ b _ _ _ _ _ _ _ _ _:Value,∀ e:World,d b e->
 CondV b (
 RR (sOp (.fieldAddr 25 (.const a) 1) 0) e fun a b=>
 RR (sOp (.load 3 (.const a)) 3) b fun a b=>
 RR (aQ 85 1 [(0,a)]) b fun a b=>
 RR (aE .append #[85,85] 85 [false,false] [p1,a]) b fun a b=>
 c a b) (
 c p1 e)))/\
 ∀ b _ _ _ _ _ _ _ _ _ _ _ _ _ _ _:Value,∀ d:World,c b d->
 RR (sOp (.fieldAddr 25 (.const a) 3) 0) d fun a c=>
 RR (sOp (.load 23 (.const a)) 23) c fun a c=>
 RR (aE .len #[23] 3 [false] [a]) c fun c d=>
 (∃ (e:Value->Value->World->Prop) (f:Value->Value->World->Nat),e (.int .i64 0) b d/\
 ∀ b _ d _ _ _ _ _ _ _:Value,∀ g:World,e b d g->
 RR (av .lss 3 false false b c) g fun c h=>
 CondV c (
 RR (sOp (.indexAddr 23 (.const a) (.const b)) 0) h fun a c=>
 RR (sOp (.load 25 (.const a)) 25) c fun a c=>
 RR (sOp (.alloc 25) 0) c fun c h=>
 RR (sOp (.store 25 (.const c) (.const a)) 0) h fun _ a=>
 RR (sOp (.load 25 (.const c)) 25) a fun a c=>
 RR (aF (.func (.func 107) #[] #[]) [a,d]) c fun a c=>
 RR (av .add 3 false true b (.int .i64 1)) c fun c h=>
 e c a h/\f c a h<f b d g) (
 R (.returned d) h)))
theorem wA {p0 p1:Value} {w:World} {R:Ending->World->Prop} (h:rJ p0 p1 w R):Calls Tryz.prog 107 #[p0,p1] w R:=
  aK (.seq none .leaf (.seq (some [1]) (.seq (some [16]) .leaf .leaf) (.seq none (.seq none .leaf (.one (.loop [25,1] .leaf))) .leaf))) [p0,p1] bp Tryz.func107 (by kernel_rfl) (by kernel_rfl) h


/- loop.example/prologserver/impl.isAtom : function 108 -/
def vd (p0:Value) (w:World) (R:Ending->World->Prop):Prop:=
 RR (sOp (.box 25 (.const p0)) 0) w fun a b=>
 RR (sOp (.fieldAddr 25 (.const a) 0) 0) b fun b c=>
 RR (sOp (.load 3 (.const b)) 3) c fun b c=>
 RR (av .eql 3 false true b (.int .i64 3)) c fun b c=>
 ai b true (
 RR (sOp (.fieldAddr 25 (.const a) 3) 0) c fun a c=>
 RR (sOp (.load 23 (.const a)) 23) c fun a c=>
 RR (aE .len #[23] 3 [false] [a]) c fun a c=>
 RR (av .eql 3 false true a (.int .i64 0)) c fun a c=>
 RR (sOp (.pick (.const b) (.const a) (.const (.bool false))) 4) c fun a b=>
 R (.returned a) b) (
 RR (sOp (.pick (.const b) (.const undef) (.const (.bool false))) 4) c fun a b=>
 R (.returned a) b)
theorem xT {p0:Value} {w:World} {R:Ending->World->Prop} (h:vd p0 w R):Calls Tryz.prog 108 #[p0] w R:=
  aK .leaf [p0] bp Tryz.func108 (by kernel_rfl) (by kernel_rfl) h


/- loop.example/prologserver/spec.l2Prime : function 109 -/
def rW (p0 p1 p2:Value) (w:World) (R:Ending->World->Prop):Prop:=
 RR (sOp (.alloc 25) 0) w fun a b=>
 (∃ c:Value->World->Prop,(
 RR (av .lss 3 false true p2 (.int .i64 1)) b fun a b=>
 ai a false (
 RR (aE .len #[9] 3 [false] [p0]) b fun b d=>
 RR (av .geq 3 false false p1 b) d fun b d=>
 RR (sOp (.pick (.const a) (.const (.bool true)) (.const b)) 4) d fun a b=>
 c a b) (
 RR (sOp (.pick (.const a) (.const (.bool true)) (.const undef)) 4) b fun a b=>
 c a b))/\
 ∀ b _ _ _ _ _ _ _:Value,∀ d:World,c b d->
 CondV b (
 RR (aF (.func (.func 116) #[] #[]) [p1]) d fun b c=>
 RR (sOp (.extract (.const b) 0) 25) c fun c d=>
 RR (sOp (.extract (.const b) 1) 3) d fun b d=>
 RR (sOp (.store 25 (.const a) (.const c)) 0) d fun _ c=>
 (a4 Tryz.prog 25 a c fun a=>R (.returned (.tuple #[a,b])) c)) (
 RR (sOp (.index 9 (.const p0) (.const p1)) 5) d fun b c=>
 RR (av .eql 5 false true b (.int .u8 40)) c fun b c=>
 CondV b (
 RR (av .add 3 false true p1 (.int .i64 1)) c fun b c=>
 RR (aF (.func (.func 98) #[] #[]) [p0,b,p2,(.int .i64 3)]) c fun b c=>
 RR (sOp (.extract (.const b) 0) 25) c fun c d=>
 RR (sOp (.extract (.const b) 1) 3) d fun b d=>
 RR (sOp (.alloc 25) 0) d fun d e=>
 RR (sOp (.store 25 (.const d) (.const c)) 0) e fun _ c=>
 RR (av .lss 3 false true b (.int .i64 0)) c fun c e=>
 CondV c (
 RR (bP 25 []) e fun c d=>
 RR (sOp (.store 25 (.const a) (.const c)) 0) d fun _ c=>
 (a4 Tryz.prog 25 a c fun a=>R (.returned (.tuple #[a,b])) c)) (
 RR (aF (.func (.func 99) #[] #[]) [p0,b,(.int .u8 41)]) e fun c e=>
 RR (sOp (.unOp .not 4 (.const c)) 4) e fun c e=>
 CondV c (
 RR (aF (.func (.func 116) #[] #[]) [b]) e fun b c=>
 RR (sOp (.extract (.const b) 0) 25) c fun c d=>
 RR (sOp (.extract (.const b) 1) 3) d fun b d=>
 RR (sOp (.store 25 (.const a) (.const c)) 0) d fun _ c=>
 (a4 Tryz.prog 25 a c fun a=>R (.returned (.tuple #[a,b])) c)) (
 RR (sOp (.load 25 (.const d)) 25) e fun c d=>
 RR (av .add 3 false true b (.int .i64 1)) d fun b d=>
 RR (sOp (.store 25 (.const a) (.const c)) 0) d fun _ c=>
 (a4 Tryz.prog 25 a c fun a=>R (.returned (.tuple #[a,b])) c)))) (
 (∃ b:Value->World->Prop,(
 RR (sOp (.index 9 (.const p0) (.const p1)) 5) c fun a c=>
 RR (av .eql 5 false true a (.int .u8 91)) c fun a c=>
 ai a true (
 RR (av .add 3 false true p1 (.int .i64 1)) c fun c d=>
 RR (aF (.func (.func 99) #[] #[]) [p0,c,(.int .u8 93)]) d fun c d=>
 RR (sOp (.unOp .not 4 (.const c)) 4) d fun c d=>
 RR (sOp (.pick (.const a) (.const c) (.const (.bool false))) 4) d fun a c=>
 b a c) (
 RR (sOp (.pick (.const a) (.const undef) (.const (.bool false))) 4) c fun a c=>
 b a c))/\
 ∀ c _ _ _ _ _ _ _ _ _ _:Value,∀ d:World,b c d->
 CondV c (
 RR (av .add 3 false true p1 (.int .i64 1)) d fun b c=>
 RR (av .sub 3 false true p2 (.int .i64 1)) c fun c d=>
 RR (aF (.func (.func 117) #[] #[]) [p0,b,c]) d fun b c=>
 RR (sOp (.extract (.const b) 0) 25) c fun c d=>
 RR (sOp (.extract (.const b) 1) 3) d fun b d=>
 RR (sOp (.store 25 (.const a) (.const c)) 0) d fun _ c=>
 (a4 Tryz.prog 25 a c fun a=>R (.returned (.tuple #[a,b])) c)) (
 (∃ b:Value->World->Prop,(
 RR (sOp (.index 9 (.const p0) (.const p1)) 5) d fun a c=>
 RR (av .geq 5 false true a (.int .u8 65)) c fun a c=>
 ai a true (
 RR (sOp (.index 9 (.const p0) (.const p1)) 5) c fun c d=>
 RR (av .leq 5 false true c (.int .u8 90)) d fun c d=>
 RR (sOp (.pick (.const a) (.const c) (.const (.bool false))) 4) d fun a c=>
 b a c) (
 RR (sOp (.pick (.const a) (.const undef) (.const (.bool false))) 4) c fun a c=>
 b a c))/\
 ∀ c _ _ _ _ _ _ _ _ _:Value,∀ d:World,b c d->
 CondV c (
 RR (sOp (.index 9 (.const p0) (.const p1)) 5) d fun b c=>
 RR (av .sub 5 false true b (.int .u8 65)) c fun b c=>
 RR (sOp (.convert 5 3 (.const b)) 3) c fun b c=>
 RR (aF (.func (.func 101) #[] #[]) [b]) c fun b c=>
 RR (av .add 3 false true p1 (.int .i64 1)) c fun c d=>
 RR (sOp (.store 25 (.const a) (.const b)) 0) d fun _ b=>
 (a4 Tryz.prog 25 a b fun a=>R (.returned (.tuple #[a,c])) b)) (
 (∃ b:Value->World->Prop,(
 RR (aF (.func (.func 118) #[] #[]) [p0,p1]) d fun a c=>
 ai a false (
 RR (sOp (.index 9 (.const p0) (.const p1)) 5) c fun c d=>
 RR (av .eql 5 false true c (.int .u8 45)) d fun c d=>
 ai c true (
 RR (av .add 3 false true p1 (.int .i64 1)) d fun d e=>
 RR (aF (.func (.func 118) #[] #[]) [p0,d]) e fun d e=>
 ai a false (
 RR (sOp (.pick (.const c) (.const d) (.const (.bool false))) 4) e fun c d=>
 RR (sOp (.pick (.const a) (.const (.bool true)) (.const c)) 4) d fun a c=>
 b a c) (
 RR (sOp (.pick (.const a) (.const (.bool true)) (.const undef)) 4) e fun a c=>
 b a c)) (
 ai a false (
 RR (sOp (.pick (.const c) (.const undef) (.const (.bool false))) 4) d fun c d=>
 RR (sOp (.pick (.const a) (.const (.bool true)) (.const c)) 4) d fun a c=>
 b a c) (
 RR (sOp (.pick (.const a) (.const (.bool true)) (.const undef)) 4) d fun a c=>
 b a c))) (
 ai undef true (
 RR (av .add 3 false true p1 (.int .i64 1)) c fun c d=>
 RR (aF (.func (.func 118) #[] #[]) [p0,c]) d fun c d=>
 ai a false (
 RR (sOp (.pick (.const undef) (.const c) (.const (.bool false))) 4) d fun c d=>
 RR (sOp (.pick (.const a) (.const (.bool true)) (.const c)) 4) d fun a c=>
 b a c) (
 RR (sOp (.pick (.const a) (.const (.bool true)) (.const undef)) 4) d fun a c=>
 b a c)) (
 ai a false (
 RR (sOp (.pick (.const undef) (.const undef) (.const (.bool false))) 4) c fun c d=>
 RR (sOp (.pick (.const a) (.const (.bool true)) (.const c)) 4) d fun a c=>
 b a c) (
 RR (sOp (.pick (.const a) (.const (.bool true)) (.const undef)) 4) c fun a c=>
 b a c))))/\
 ∀ c _ _ _ _ _ _ _ _ _ _ _ _ _ _:Value,∀ d:World,b c d->
 CondV c (
 RR (aF (.func (.func 119) #[] #[]) [p0,p1]) d fun b c=>
 RR (sOp (.extract (.const b) 0) 25) c fun c d=>
 RR (sOp (.extract (.const b) 1) 3) d fun b d=>
 RR (sOp (.alloc 25) 0) d fun d e=>
 RR (sOp (.store 25 (.const d) (.const c)) 0) e fun _ c=>
 RR (av .lss 3 false true b (.int .i64 0)) c fun c e=>
 CondV c (
 RR (aF (.func (.func 116) #[] #[]) [p1]) e fun b c=>
 RR (sOp (.extract (.const b) 0) 25) c fun c d=>
 RR (sOp (.extract (.const b) 1) 3) d fun b d=>
 RR (sOp (.store 25 (.const a) (.const c)) 0) d fun _ c=>
 (a4 Tryz.prog 25 a c fun a=>R (.returned (.tuple #[a,b])) c)) (
 RR (sOp (.load 25 (.const d)) 25) e fun c d=>
 RR (sOp (.store 25 (.const a) (.const c)) 0) d fun _ c=>
 (a4 Tryz.prog 25 a c fun a=>R (.returned (.tuple #[a,b])) c))) (
 RR (aF (.func (.func 120) #[] #[]) [p0,p1]) d fun b c=>
 RR (sOp (.extract (.const b) 0) 9) c fun c d=>
 RR (sOp (.extract (.const b) 1) 3) d fun b d=>
 RR (av .lss 3 false true b (.int .i64 0)) d fun d e=>
 CondV d (
 RR (aF (.func (.func 116) #[] #[]) [p1]) e fun b c=>
 RR (sOp (.extract (.const b) 0) 25) c fun c d=>
 RR (sOp (.extract (.const b) 1) 3) d fun b d=>
 RR (sOp (.store 25 (.const a) (.const c)) 0) d fun _ c=>
 (a4 Tryz.prog 25 a c fun a=>R (.returned (.tuple #[a,b])) c)) (
 RR (aF (.func (.func 99) #[] #[]) [p0,b,(.int .u8 40)]) e fun d e=>
 RR (sOp (.unOp .not 4 (.const d)) 4) e fun d e=>
 CondV d (
 RR (aF (.func (.func 38) #[] #[]) [c,(Value.slice none 0 0)]) e fun c d=>
 RR (sOp (.store 25 (.const a) (.const c)) 0) d fun _ c=>
 (a4 Tryz.prog 25 a c fun a=>R (.returned (.tuple #[a,b])) c)) (
 RR (av .add 3 false true b (.int .i64 1)) e fun b d=>
 RR (av .sub 3 false true p2 (.int .i64 1)) d fun d e=>
 RR (aF (.func (.func 121) #[] #[]) [p0,b,d,(.int .u8 41),(.int .u8 41)]) e fun b d=>
 RR (sOp (.extract (.const b) 0) 23) d fun d e=>
 RR (sOp (.extract (.const b) 1) 3) e fun b e=>
 RR (av .lss 3 false true b (.int .i64 0)) e fun e f=>
 CondV e (
 RR (bP 25 []) f fun c d=>
 RR (sOp (.store 25 (.const a) (.const c)) 0) d fun _ c=>
 (a4 Tryz.prog 25 a c fun a=>R (.returned (.tuple #[a,b])) c)) (
 RR (bP 25 [(0,(.int .i64 3)),(2,c),(3,d)]) f fun c d=>
 RR (av .add 3 false true b (.int .i64 1)) d fun b d=>
 RR (sOp (.store 25 (.const a) (.const c)) 0) d fun _ c=>
 (a4 Tryz.prog 25 a c fun a=>R (.returned (.tuple #[a,b])) c)))))))))))))
theorem wj {p0 p1 p2:Value} {w:World} {R:Ending->World->Prop} (h:rW p0 p1 p2 w R):Calls Tryz.prog 109 #[p0,p1,p2] w R:=
  aK (.seq none .leaf (.seq none (.seq (some [23]) .leaf .leaf) (.seq none .leaf (.seq none (.seq (some [65]) .leaf .leaf) (.seq none (.seq (some [83]) .leaf .leaf) (.seq none (.seq (some [106]) .leaf .leaf) .leaf)))))) [p0,p1,p2] bp Tryz.func109 (by kernel_rfl) (by kernel_rfl) h


/- loop.example/prologserver/spec.l2Op : function 110 -/
def Bm (p0 p1:Value) (w:World) (R:Ending->World->Prop):Prop:=
 (∃ a:Value->World->Prop,(
 RR (aF (.func (.func 99) #[] #[]) [p0,p1,(.int .u8 32)]) w fun b c=>
 CondV b (
 RR (av .add 3 false true p1 (.int .i64 1)) c fun b c=>
 a b c) (
 a p1 c))/\
 ∀ b _ _ _ _ _:Value,∀ c:World,a b c->
 RR (aE .len #[9] 3 [false] [p0]) c fun a c=>
 RR (av .geq 3 false false b a) c fun a c=>
 CondV a (
 R (.returned (.tuple #[(.string ⟨#[]⟩),p1])) c) (
 RR (aF (.func (.func 120) #[] #[]) [p0,b]) c fun a c=>
 RR (sOp (.extract (.const a) 0) 9) c fun c d=>
 RR (sOp (.extract (.const a) 1) 3) d fun a d=>
 (∃ e:Value->World->Prop,(
 RR (av .lss 3 false true a (.int .i64 0)) d fun a b=>
 ai a false (
 RR (aF (.func (.func 80) #[] #[]) [c]) b fun b c=>
 RR (av .eql 3 false true b (.int .i64 0)) c fun b c=>
 RR (sOp (.pick (.const a) (.const (.bool true)) (.const b)) 4) c fun a b=>
 e a b) (
 RR (sOp (.pick (.const a) (.const (.bool true)) (.const undef)) 4) b fun a b=>
 e a b))/\
 ∀ d _ _ _ _ _ _:Value,∀ f:World,e d f->
 CondV d (
 R (.returned (.tuple #[(.string ⟨#[]⟩),p1])) f) (
 (∃ d:Value->World->Prop,(
 RR (av .eql 9 false true c (.string ⟨#[105,115]⟩)) f fun a b=>
 ai a false (
 RR (av .eql 9 false true c (.string ⟨#[109,111,100]⟩)) b fun b c=>
 RR (sOp (.pick (.const a) (.const (.bool true)) (.const b)) 4) c fun a b=>
 d a b) (
 RR (sOp (.pick (.const a) (.const (.bool true)) (.const undef)) 4) b fun a b=>
 d a b))/\
 ∀ e _ _ _ _ _ _:Value,∀ f:World,d e f->
 (∃ d:Value->World->Prop,(
 RR (av .gtr 3 false false b p1) f fun b c=>
 RR (av .neq 4 false false e b) c fun b c=>
 ai b false (
 ai e true (
 RR (aF (.func (.func 99) #[] #[]) [p0,a,(.int .u8 32)]) c fun a c=>
 RR (sOp (.unOp .not 4 (.const a)) 4) c fun a c=>
 ai b false (
 RR (sOp (.pick (.const e) (.const a) (.const (.bool false))) 4) c fun a c=>
 RR (sOp (.pick (.const b) (.const (.bool true)) (.const a)) 4) c fun a b=>
 d a b) (
 RR (sOp (.pick (.const b) (.const (.bool true)) (.const undef)) 4) c fun a b=>
 d a b)) (
 ai b false (
 RR (sOp (.pick (.const e) (.const undef) (.const (.bool false))) 4) c fun a c=>
 RR (sOp (.pick (.const b) (.const (.bool true)) (.const a)) 4) c fun a b=>
 d a b) (
 RR (sOp (.pick (.const b) (.const (.bool true)) (.const undef)) 4) c fun a b=>
 d a b))) (
 ai undef true (
 RR (aF (.func (.func 99) #[] #[]) [p0,a,(.int .u8 32)]) c fun a c=>
 RR (sOp (.unOp .not 4 (.const a)) 4) c fun a c=>
 ai b false (
 RR (sOp (.pick (.const undef) (.const a) (.const (.bool false))) 4) c fun a c=>
 RR (sOp (.pick (.const b) (.const (.bool true)) (.const a)) 4) c fun a b=>
 d a b) (
 RR (sOp (.pick (.const b) (.const (.bool true)) (.const undef)) 4) c fun a b=>
 d a b)) (
 ai b false (
 RR (sOp (.pick (.const undef) (.const undef) (.const (.bool false))) 4) c fun a c=>
 RR (sOp (.pick (.const b) (.const (.bool true)) (.const a)) 4) c fun a b=>
 d a b) (
 RR (sOp (.pick (.const b) (.const (.bool true)) (.const undef)) 4) c fun a b=>
 d a b))))/\
 ∀ b _ _ _ _ _ _ _ _ _ _ _ _ _:Value,∀ f:World,d b f->
 CondV b (
 R (.returned (.tuple #[(.string ⟨#[]⟩),p1])) f) (
 (∃ b:Value->World->Prop,(
 CondV e (
 RR (av .add 3 false true a (.int .i64 1)) f fun a c=>
 b a c) (
 b a f))/\
 ∀ a _ _ _:Value,∀ d:World,b a d->
 R (.returned (.tuple #[c,a])) d))))))))
theorem C0 {p0 p1:Value} {w:World} {R:Ending->World->Prop} (h:Bm p0 p1 w R):Calls Tryz.prog 110 #[p0,p1] w R:=
  aK (.seq none .leaf (.seq none .leaf (.seq (some [6]) .leaf (.seq none .leaf (.seq none .leaf (.seq none (.seq (some [33]) .leaf .leaf) (.seq (some [9]) .leaf (.seq none (.seq (some [54]) .leaf .leaf) (.seq (some [8]) .leaf .leaf))))))))) [p0,p1] bp Tryz.func110 (by kernel_rfl) (by kernel_rfl) h


/- loop.example/prologserver/spec.l4Text : function 111 -/
def vW (p0:Value) (w:World) (R:Ending->World->Prop):Prop:=
 RR (sOp (.box 27 (.const p0)) 0) w fun a b=>
 RR (sOp (.fieldAddr 27 (.const a) 0) 0) b fun b c=>
 RR (sOp (.load 25 (.const b)) 25) c fun b c=>
 RR (aF (.func (.func 122) #[] #[]) [b]) c fun b c=>
 (∃ (d:Value->Value->World->Prop) (e:Value->Value->World->Nat),d (.int .i64 0) b c/\
 ∀ b _ _ _ _ _ _ _ _ _ _ _ _ c _ _ _ _ _ _ _ _ _:Value,∀ f:World,d b c f->
 RR (sOp (.fieldAddr 27 (.const a) 1) 0) f fun g h=>
 RR (sOp (.load 23 (.const g)) 23) h fun g h=>
 RR (aE .len #[23] 3 [false] [g]) h fun g h=>
 RR (av .lss 3 false false b g) h fun g h=>
 CondV g (
 (∃ g:Value->World->Prop,(
 RR (av .eql 3 false true b (.int .i64 0)) h fun a b=>
 CondV a (
 RR (av .add 9 false true c (.string ⟨#[58,45]⟩)) b fun a b=>
 g a b) (
 RR (av .add 9 false true c (.string ⟨#[44]⟩)) b fun a b=>
 g a b))/\
 ∀ _ _ h _ _ _ _:Value,∀ i:World,g h i->
 RR (sOp (.fieldAddr 27 (.const a) 1) 0) i fun a g=>
 RR (sOp (.load 23 (.const a)) 23) g fun a g=>
 RR (sOp (.indexAddr 23 (.const a) (.const b)) 0) g fun a g=>
 RR (sOp (.load 25 (.const a)) 25) g fun a g=>
 RR (aF (.func (.func 122) #[] #[]) [a]) g fun a g=>
 RR (av .add 9 false false h a) g fun a g=>
 RR (av .add 3 false true b (.int .i64 1)) g fun g h=>
 d g a h/\e g a h<e b c f)) (
 RR (av .add 9 false true c (.string ⟨#[46]⟩)) h fun a b=>
 R (.returned a) b))
theorem zF {p0:Value} {w:World} {R:Ending->World->Prop} (h:vW p0 w R):Calls Tryz.prog 111 #[p0] w R:=
  aK (.seq none .leaf (.seq none .leaf (.seq none (.seq none .leaf (.one (.loop [4,3] (.seq none .leaf (.seq none (.one (.seq (some [3]) .leaf .leaf)) .leaf))))) .leaf))) [p0] bp Tryz.func111 (by kernel_rfl) (by kernel_rfl) h


/- (*loop.example/prologserver/impl.store).occurs$1 : function 112 -/
def jo (p0 p1 p2 p3:Value) (w:World) (R:Ending->World->Prop):Prop:=
 RR (sOp (.box 25 (.const p0)) 0) w fun a b=>
 RR (sOp (.load 65 (.const p1)) 65) b fun b c=>
 RR (sOp (.load 3 (.const p2)) 3) c fun c d=>
 RR (sOp (.load 25 (.const a)) 25) d fun a d=>
 RR (sOp (.load 112 (.const p3)) 112) d fun d e=>
 RR (aF (.func (.func 102) #[] #[]) [b,c,a,d]) e fun a b=>
 R (.returned a) b
theorem ma {p0 p1 p2 p3:Value} {w:World} {R:Ending->World->Prop} (h:jo p0 p1 p2 p3 w R):Calls Tryz.prog 112 #[p0,p1,p2,p3] w R:=
  aK .leaf [p0,p1,p2,p3] bp Tryz.func112 (by kernel_rfl) (by kernel_rfl) h


/- loop.example/prologserver/spec.NameValid : function 113 -/
def ox (p0:Value) (w:World) (R:Ending->World->Prop):Prop:=
 RR (aF (.func (.func 78) #[] #[]) [p0]) w fun a b=>
 ai a false (
 RR (aF (.func (.func 124) #[] #[]) []) b fun b c=>
 RR (aF (.func (.func 123) #[] #[]) [b,p0]) c fun b c=>
 RR (sOp (.pick (.const a) (.const (.bool true)) (.const b)) 4) c fun a b=>
 R (.returned a) b) (
 RR (sOp (.pick (.const a) (.const (.bool true)) (.const undef)) 4) b fun a b=>
 R (.returned a) b)
theorem qR {p0:Value} {w:World} {R:Ending->World->Prop} (h:ox p0 w R):Calls Tryz.prog 113 #[p0] w R:=
  aK .leaf [p0] bp Tryz.func113 (by kernel_rfl) (by kernel_rfl) h


/- slices.Index[[]string,string] : function 114 -/
def kj (p0 p1:Value) (w:World) (R:Ending->World->Prop):Prop:=
 RR (aE .len #[55] 3 [false] [p0]) w fun a b=>
 (∃ (c:Value->World->Prop) (d:Value->World->Nat),c (.int .i64 0) b/\
 ∀ b _ _ _ _ _ _ _ _ _ _ _ _:Value,∀ e:World,c b e->
 RR (av .lss 3 false false b a) e fun a f=>
 CondV a (
 RR (sOp (.indexAddr 55 (.const p0) (.const b)) 0) f fun a f=>
 RR (sOp (.load 9 (.const a)) 9) f fun a f=>
 RR (av .eql 9 false false p1 a) f fun a f=>
 CondV a (
 R (.returned b) f) (
 RR (av .add 3 false true b (.int .i64 1)) f fun a f=>
 c a f/\d a f<d b e)) (
 R (.returned (.int .i64 (-1))) f))
theorem og {p0 p1:Value} {w:World} {R:Ending->World->Prop} (h:kj p0 p1 w R):Calls Tryz.prog 114 #[p0,p1] w R:=
  aK (.seq none .leaf (.seq none (.seq none .leaf (.one (.loop [8] .leaf))) .leaf)) [p0,p1] bp Tryz.func114 (by kernel_rfl) (by kernel_rfl) h


/- slices.Contains[[]int,int] : function 115 -/
def kF (p0 p1:Value) (w:World) (R:Ending->World->Prop):Prop:=
 RR (aF (.func (.func 93) #[] #[]) [p0,p1]) w fun a b=>
 RR (av .geq 3 false true a (.int .i64 0)) b fun a b=>
 R (.returned a) b
theorem nh {p0 p1:Value} {w:World} {R:Ending->World->Prop} (h:kF p0 p1 w R):Calls Tryz.prog 115 #[p0,p1] w R:=
  aK .leaf [p0,p1] bp Tryz.func115 (by kernel_rfl) (by kernel_rfl) h


/- loop.example/prologserver/spec.l2Items : function 117 -/
def sL (p0 p1 p2:Value) (w:World) (R:Ending->World->Prop):Prop:=
 RR (sOp (.alloc 25) 0) w fun a b=>
 RR (aF (.func (.func 121) #[] #[]) [p0,p1,p2,(.int .u8 93),(.int .u8 124)]) b fun b c=>
 RR (sOp (.extract (.const b) 0) 23) c fun c d=>
 RR (sOp (.extract (.const b) 1) 3) d fun b d=>
 RR (av .lss 3 false true b (.int .i64 0)) d fun d e=>
 CondV d (
 RR (bP 25 []) e fun c d=>
 RR (sOp (.store 25 (.const a) (.const c)) 0) d fun _ c=>
 (a4 Tryz.prog 25 a c fun a=>R (.returned (.tuple #[a,b])) c)) (
 RR (aF (.func (.func 99) #[] #[]) [p0,b,(.int .u8 93)]) e fun d e=>
 CondV d (
 RR (aF (.func (.func 38) #[] #[]) [(.string ⟨#[91,93]⟩),(Value.slice none 0 0)]) e fun d e=>
 RR (aF (.func (.func 125) #[] #[]) [c,d]) e fun c d=>
 RR (av .add 3 false true b (.int .i64 1)) d fun b d=>
 RR (sOp (.store 25 (.const a) (.const c)) 0) d fun _ c=>
 (a4 Tryz.prog 25 a c fun a=>R (.returned (.tuple #[a,b])) c)) (
 RR (av .add 3 false true b (.int .i64 1)) e fun b d=>
 RR (aF (.func (.func 98) #[] #[]) [p0,b,p2,(.int .i64 3)]) d fun b d=>
 RR (sOp (.extract (.const b) 0) 25) d fun d e=>
 RR (sOp (.extract (.const b) 1) 3) e fun b e=>
 RR (sOp (.alloc 25) 0) e fun e f=>
 RR (sOp (.store 25 (.const e) (.const d)) 0) f fun _ d=>
 RR (av .lss 3 false true b (.int .i64 0)) d fun d f=>
 CondV d (
 RR (bP 25 []) f fun c d=>
 RR (sOp (.store 25 (.const a) (.const c)) 0) d fun _ c=>
 (a4 Tryz.prog 25 a c fun a=>R (.returned (.tuple #[a,b])) c)) (
 RR (aF (.func (.func 99) #[] #[]) [p0,b,(.int .u8 93)]) f fun d f=>
 RR (sOp (.unOp .not 4 (.const d)) 4) f fun d f=>
 CondV d (
 RR (aF (.func (.func 116) #[] #[]) [b]) f fun b c=>
 RR (sOp (.extract (.const b) 0) 25) c fun c d=>
 RR (sOp (.extract (.const b) 1) 3) d fun b d=>
 RR (sOp (.store 25 (.const a) (.const c)) 0) d fun _ c=>
 (a4 Tryz.prog 25 a c fun a=>R (.returned (.tuple #[a,b])) c)) (
 RR (sOp (.load 25 (.const e)) 25) f fun d e=>
 RR (aF (.func (.func 125) #[] #[]) [c,d]) e fun c d=>
 RR (av .add 3 false true b (.int .i64 1)) d fun b d=>
 RR (sOp (.store 25 (.const a) (.const c)) 0) d fun _ c=>
 (a4 Tryz.prog 25 a c fun a=>R (.returned (.tuple #[a,b])) c)))))
theorem wH {p0 p1 p2:Value} {w:World} {R:Ending->World->Prop} (h:sL p0 p1 p2 w R):Calls Tryz.prog 117 #[p0,p1,p2] w R:=
  aK .leaf [p0,p1,p2] bp Tryz.func117 (by kernel_rfl) (by kernel_rfl) h


/- loop.example/prologserver/spec.l1Digit : function 118 -/
def rM (p0 p1:Value) (w:World) (R:Ending->World->Prop):Prop:=
 RR (av .geq 3 false true p1 (.int .i64 0)) w fun a b=>
 ((fun c:VW=>ai a true (
 RR (aE .len #[9] 3 [false] [p0]) b fun b d=>
 RR (av .lss 3 false false p1 b) d fun b d=>
 RR (sOp (.pick (.const a) (.const b) (.const (.bool false))) 4) d fun a b=>c a b) (
 RR (sOp (.pick (.const a) (.const undef) (.const (.bool false))) 4) b fun a b=>c a b)) fun a b=>
 ((fun c:VW=>ai a true (
 RR (sOp (.index 9 (.const p0) (.const p1)) 5) b fun b d=>
 RR (av .geq 5 false true b (.int .u8 48)) d fun b d=>
 RR (sOp (.pick (.const a) (.const b) (.const (.bool false))) 4) d fun a b=>c a b) (
 RR (sOp (.pick (.const a) (.const undef) (.const (.bool false))) 4) b fun a b=>c a b)) fun a b=>
 ai a true (
 RR (sOp (.index 9 (.const p0) (.const p1)) 5) b fun b c=>
 RR (av .leq 5 false true b (.int .u8 57)) c fun b c=>
 RR (sOp (.pick (.const a) (.const b) (.const (.bool false))) 4) c fun a b=>
 R (.returned a) b) (
 RR (sOp (.pick (.const a) (.const undef) (.const (.bool false))) 4) b fun a b=>
 R (.returned a) b)))
theorem wI {p0 p1:Value} {w:World} {R:Ending->World->Prop} (h:rM p0 p1 w R):Calls Tryz.prog 118 #[p0,p1] w R:=
  aK .leaf [p0,p1] bp Tryz.func118 (by kernel_rfl) (by kernel_rfl) h


/- loop.example/prologserver/spec.l1Number : function 119 -/
def pP (p0 p1:Value) (w:World) (R:Ending->World->Prop):Prop:=
 RR (sOp (.alloc 25) 0) w fun a b=>
 (∃ c:Value->World->Prop,(
 RR (aF (.func (.func 99) #[] #[]) [p0,p1,(.int .u8 45)]) b fun a b=>
 CondV a (
 RR (av .add 3 false true p1 (.int .i64 1)) b fun a b=>
 c a b) (
 c p1 b))/\
 ∀ b _ _ _ _ _:Value,∀ d:World,c b d->
 (∃ (c:Value->World->Prop) (e:Value->World->Nat),c b d/\
 ∀ d _ _ _ _ _ _ _ _ _ _ _:Value,∀ f:World,c d f->
 (∃ g:Value->World->Prop,(
 RR (aF (.func (.func 118) #[] #[]) [p0,d]) f fun a c=>
 ai a true (
 RR (av .add 3 false true b (.int .i64 4)) c fun b c=>
 RR (av .lss 3 false false d b) c fun b c=>
 RR (sOp (.pick (.const a) (.const b) (.const (.bool false))) 4) c fun a b=>
 g a b) (
 RR (sOp (.pick (.const a) (.const undef) (.const (.bool false))) 4) c fun a b=>
 g a b))/\
 ∀ h _ _ _ _ _ _ _ _:Value,∀ i:World,g h i->
 CondV h (
 RR (av .add 3 false true d (.int .i64 1)) i fun a b=>
 c a b/\e a b<e d f) (
 RR (sOp (.slice 9 (.const p0) (some (.const b)) (some (.const d)) none) 9) i fun c e=>
 RR (aF (.func (.func 126) #[] #[]) [c]) e fun c e=>
 RR (sOp (.extract (.const c) 0) 3) e fun e f=>
 RR (sOp (.extract (.const c) 1) 4) f fun c f=>
 (∃ g:Value->World->Prop,(
 RR (sOp (.unOp .not 4 (.const c)) 4) f fun a c=>
 ai a false (
 RR (av .gtr 3 false false b p1) c fun b c=>
 ai b true (
 RR (av .eql 3 false true e (.int .i64 0)) c fun c d=>
 ((fun e:VW=>ai a false (
 RR (sOp (.pick (.const b) (.const c) (.const (.bool false))) 4) d fun b c=>
 RR (sOp (.pick (.const a) (.const (.bool true)) (.const b)) 4) c fun a b=>e a b) (
 RR (sOp (.pick (.const a) (.const (.bool true)) (.const undef)) 4) d fun a b=>e a b)) fun a b=>
 ai a false (
 RR (av .gtr 3 false true e (.int .i64 999)) b fun b c=>
 RR (sOp (.pick (.const a) (.const (.bool true)) (.const b)) 4) c fun a b=>
 g a b) (
 RR (sOp (.pick (.const a) (.const (.bool true)) (.const undef)) 4) b fun a b=>
 g a b))) (
 ((fun d:VW=>ai a false (
 RR (sOp (.pick (.const b) (.const undef) (.const (.bool false))) 4) c fun b c=>
 RR (sOp (.pick (.const a) (.const (.bool true)) (.const b)) 4) c fun a b=>d a b) (
 RR (sOp (.pick (.const a) (.const (.bool true)) (.const undef)) 4) c fun a b=>d a b)) fun a b=>
 ai a false (
 RR (av .gtr 3 false true e (.int .i64 999)) b fun b c=>
 RR (sOp (.pick (.const a) (.const (.bool true)) (.const b)) 4) c fun a b=>
 g a b) (
 RR (sOp (.pick (.const a) (.const (.bool true)) (.const undef)) 4) b fun a b=>
 g a b)))) (
 ai undef true (
 RR (av .eql 3 false true e (.int .i64 0)) c fun b c=>
 ((fun d:VW=>ai a false (
 RR (sOp (.pick (.const undef) (.const b) (.const (.bool false))) 4) c fun b c=>
 RR (sOp (.pick (.const a) (.const (.bool true)) (.const b)) 4) c fun a b=>d a b) (
 RR (sOp (.pick (.const a) (.const (.bool true)) (.const undef)) 4) c fun a b=>d a b)) fun a b=>
 ai a false (
 RR (av .gtr 3 false true e (.int .i64 999)) b fun b c=>
 RR (sOp (.pick (.const a) (.const (.bool true)) (.const b)) 4) c fun a b=>
 g a b) (
 RR (sOp (.pick (.const a) (.const (.bool true)) (.const undef)) 4) b fun a b=>
 g a b))) (
 ((fun b:VW=>ai a false (
 RR (sOp (.pick (.const undef) (.const undef) (.const (.bool false))) 4) c fun c d=>
 RR (sOp (.pick (.const a) (.const (.bool true)) (.const c)) 4) d fun a c=>b a c) (
 RR (sOp (.pick (.const a) (.const (.bool true)) (.const undef)) 4) c fun a c=>b a c)) fun a b=>
 ai a false (
 RR (av .gtr 3 false true e (.int .i64 999)) b fun b c=>
 RR (sOp (.pick (.const a) (.const (.bool true)) (.const b)) 4) c fun a b=>
 g a b) (
 RR (sOp (.pick (.const a) (.const (.bool true)) (.const undef)) 4) b fun a b=>
 g a b)))))/\
 ∀ c _ _ _ _ _ _ _ _ _ _ _ _ _ _:Value,∀ f:World,g c f->
 CondV c (
 RR (bP 25 []) f fun b c=>
 RR (sOp (.store 25 (.const a) (.const b)) 0) c fun _ b=>
 (a4 Tryz.prog 25 a b fun a=>R (.returned (.tuple #[a,(.int .i64 (-1))])) b)) (
 (∃ c:Value->World->Prop,(
 RR (av .gtr 3 false false b p1) f fun a b=>
 CondV a (
 RR (sOp (.unOp .neg 3 (.const e)) 3) b fun a b=>
 c a b) (
 c e b))/\
 ∀ b _ _ _ _ _:Value,∀ e:World,c b e->
 RR (aF (.func (.func 70) #[] #[]) [b]) e fun b c=>
 RR (sOp (.store 25 (.const a) (.const b)) 0) c fun _ b=>
 (a4 Tryz.prog 25 a b fun a=>R (.returned (.tuple #[a,d])) b))))))))
theorem tz {p0 p1:Value} {w:World} {R:Ending->World->Prop} (h:pP p0 p1 w R):Calls Tryz.prog 119 #[p0,p1] w R:=
  aK (.seq none .leaf (.seq none .leaf (.seq (some [6]) .leaf (.seq none .leaf (.seq none (.one (.loop [6] (.seq none (.seq (some [25]) .leaf .leaf) .leaf))) (.seq none .leaf (.seq none (.seq (some [50]) .leaf .leaf) (.seq (some [8]) .leaf .leaf)))))))) [p0,p1] bp Tryz.func119 (by kernel_rfl) (by kernel_rfl) h


/- loop.example/prologserver/spec.l1Name : function 120 -/
def vp (p0 p1:Value) (w:World) (R:Ending->World->Prop):Prop:=
 (∃ (a:Value->World->Prop) (b:Value->World->Nat),a p1 w/\
 ∀ c _ _ _ _ _:Value,∀ d:World,a c d->
 RR (aF (.func (.func 127) #[] #[]) [p0,c]) d fun e f=>
 CondV e (
 RR (av .add 3 false true c (.int .i64 1)) f fun e f=>
 a e f/\b e f<b c d) (
 RR (av .add 3 false true p1 (.int .i64 6)) f fun a b=>
 RR (av .gtr 3 false false c a) b fun a b=>
 CondV a (
 R (.returned (.tuple #[(.string ⟨#[]⟩),(.int .i64 (-1))])) b) (
 RR (av .gtr 3 false false c p1) b fun a b=>
 CondV a (
 RR (sOp (.slice 9 (.const p0) (some (.const p1)) (some (.const c)) none) 9) b fun a b=>
 R (.returned (.tuple #[a,c])) b) (
 RR (aF (.func (.func 124) #[] #[]) []) b fun a b=>
 (∃ (c:Value->Value->World->Prop) (d:Value->Value->World->Nat),c (.int .i64 0) (.string ⟨#[]⟩) b/\
 ∀ b _ _ e _ _ _ _ f g h i j k l m n o p q r s t u v x y z A B C D E _ _ _ _ _ _ _ _ _ _:Value,∀ F:World,c b e F->
 RR (aE .len #[55] 3 [false] [a]) F fun G H=>
 RR (av .lss 3 false false b G) H fun G H=>
 CondV G (
 (∃ G:Value->World->Prop,(
 RR (sOp (.indexAddr 55 (.const a) (.const b)) 0) H fun c d=>
 RR (sOp (.load 9 (.const c)) 9) d fun c d=>
 RR (aE .len #[9] 3 [false] [c]) d fun c d=>
 (∃ F:(Nat->Bool)->Value->Value->Value->Value->Value->Value->Value->Value->Value->Value->Value->Value->Value->Value->Value->Value->Value->Value->Value->Value->Value->Value->Value->Value->Value->World->Prop,F (fun _=>false) f g h i j k l m n o p q r s t u v x y z A B C D E { d with drawn:=d.drawn+1 }/\(
 (∀ a:Nat->Bool,a 0=false->∀ b c d e f g h i j k l m n o p q r s t u v x y z A B,F a b c d e f g h i j k l m n o p q r s t u v x y z A B->
 F (ao a 0) b c d e f g h i j k l m n o p q r s t u v x y z p1 B)/\
 (∀ a:Nat->Bool,a 1=false->∀ b d e f g h i j k l m n o p q r s t u v x y z A B C,F a b d e f g h i j k l m n o p q r s t u v x y z A B C->
 F (ao a 1) b d e f g h i j k l m n o p q r s t u v x y z c B C)/\
 (∀ a:Nat->Bool,a 2=false->a 0=true->a 1=true->∀ b c d e f g h i j k l m n o p q r s t u v x y z A B,F a b c d e f g h i j k l m n o p q r s t u v x y z A B->
 RR (av .add 3 false false A z) B fun y B=>
 F (ao a 2) b c d e f g h i j k l m n o p q r s t u v x y z A B)/\
 (∀ a:Nat->Bool,a 3=false->∀ b c d e f g h i j k l m n o p q r s t u v x y z A B,F a b c d e f g h i j k l m n o p q r s t u v x y z A B->
 F (ao a 3) b c d e f g h i j k l m n o p q r s t u v p0 y z A B)/\
 (∀ a:Nat->Bool,a 4=false->a 3=true->∀ b c d e f g h i j k l m n o p q r s t u v x y z A B,F a b c d e f g h i j k l m n o p q r s t u v x y z A B->
 RR (aE .len #[9] 3 [false] [x]) B fun v B=>
 F (ao a 4) b c d e f g h i j k l m n o p q r s t u v x y z A B)/\
 (∀ a:Nat->Bool,a 5=false->a 2=true->a 4=true->∀ b c d e f g h i j k l m n o p q r s t u v x y z A B,F a b c d e f g h i j k l m n o p q r s t u v x y z A B->
 RR (av .leq 3 false false y v) B fun u B=>
 F (ao a 5) b c d e f g h i j k l m n o p q r s t u v x y z A B)/\
 (∀ a:Nat->Bool,a 6=false->a 5=true->∀ b c d e f g h i j k l m n o p q r s t u v x y z A B,F a b c d e f g h i j k l m n o p q r s t u v x y z A B->
 F (ao a 6) b c d e f g h i j k l m n o p q r s u u v x y z A B)/\
 (∀ a:Nat->Bool,a 7=false->a 6=true->∀ b c d e f g h i j k l m n o p q r s t u v x y z A B,F a b c d e f g h i j k l m n o p q r s t u v x y z A B->
 ai t true (F (ao a 7) b c d e f g h i j k l m n o p q r p0 t u v x y z A B) (F (ao a 7) b c d e f g h i j k l m n o p q r undef t u v x y z A B))/\
 (∀ a:Nat->Bool,a 8=false->a 6=true->∀ b c d e f g h i j k l m n o p q r s t u v x y z A B,F a b c d e f g h i j k l m n o p q r s t u v x y z A B->
 ai t true (F (ao a 8) b c d e f g h i j k l m n o p q p1 s t u v x y z A B) (F (ao a 8) b c d e f g h i j k l m n o p q undef s t u v x y z A B))/\
 (∀ a:Nat->Bool,a 9=false->a 6=true->∀ b c d e f g h i j k l m n o p q r s t u v x y z A B,F a b c d e f g h i j k l m n o p q r s t u v x y z A B->
 ai t true (F (ao a 9) b c d e f g h i j k l m n o p p1 r s t u v x y z A B) (F (ao a 9) b c d e f g h i j k l m n o p undef r s t u v x y z A B))/\
 (∀ a:Nat->Bool,a 10=false->a 6=true->∀ b d e f g h i j k l m n o p q r s t u v x y z A B C,F a b d e f g h i j k l m n o p q r s t u v x y z A B C->
 ai u true (F (ao a 10) b d e f g h i j k l m n o p c r s t u v x y z A B C) (F (ao a 10) b d e f g h i j k l m n o p undef r s t u v x y z A B C))/\
 (∀ a:Nat->Bool,a 11=false->a 9=true->a 10=true->a 6=true->∀ b c d e f g h i j k l m n o p q r s t u v x y z A B,F a b c d e f g h i j k l m n o p q r s t u v x y z A B->
 ai t true (RR (av .add 3 false false q p) B fun o B=>
 F (ao a 11) b c d e f g h i j k l m n o p q r s t u v x y z A B) (F (ao a 11) b c d e f g h i j k l m n undef p q r s t u v x y z A B))/\
 (∀ a:Nat->Bool,a 12=false->a 7=true->a 8=true->a 11=true->a 6=true->∀ b c d e f g h i j k l m n o p q r s t u v x y z A B,F a b c d e f g h i j k l m n o p q r s t u v x y z A B->
 ai t true (RR (sOp (.slice 9 (.const s) (some (.const r)) (some (.const o)) none) 9) B fun n B=>
 F (ao a 12) b c d e f g h i j k l m n o p q r s t u v x y z A B) (F (ao a 12) b c d e f g h i j k l m undef o p q r s t u v x y z A B))/\
 (∀ b:Nat->Bool,b 13=false->b 6=true->∀ c d e f g h i j k l m n o p q r s t u v x y z A B C,F b c d e f g h i j k l m n o p q r s t u v x y z A B C->
 ai u true (F (ao b 13) c d e f g h i j k l m a o p q r s t u v x y z A B C) (F (ao b 13) c d e f g h i j k l m undef o p q r s t u v x y z A B C))/\
 (∀ a:Nat->Bool,a 14=false->a 6=true->∀ c d e f g h i j k l m n o p q r s t u v x y z A B C,F a c d e f g h i j k l m n o p q r s t u v x y z A B C->
 ai u true (F (ao a 14) c d e f g h i j k l b n o p q r s t u v x y z A B C) (F (ao a 14) c d e f g h i j k l undef n o p q r s t u v x y z A B C))/\
 (∀ a:Nat->Bool,a 15=false->a 13=true->a 14=true->a 6=true->∀ b c d e f g h i j k l m n o p q r s t u v x y z A B,F a b c d e f g h i j k l m n o p q r s t u v x y z A B->
 ai t true (RR (sOp (.indexAddr 55 (.const m) (.const l)) 0) B fun k B=>
 F (ao a 15) b c d e f g h i j k l m n o p q r s t u v x y z A B) (F (ao a 15) b c d e f g h i j undef l m n o p q r s t u v x y z A B))/\
 (∀ a:Nat->Bool,a 16=false->a 15=true->a 6=true->∀ b c d e f g h i j k l m n o p q r s t u v x y z A B,F a b c d e f g h i j k l m n o p q r s t u v x y z A B->
 ai t true (RR (sOp (.load 9 (.const k)) 9) B fun j B=>
 F (ao a 16) b c d e f g h i j k l m n o p q r s t u v x y z A B) (F (ao a 16) b c d e f g h i undef k l m n o p q r s t u v x y z A B))/\
 (∀ a:Nat->Bool,a 17=false->a 12=true->a 16=true->a 6=true->∀ b c d e f g h i j k l m n o p q r s t u v x y z A B,F a b c d e f g h i j k l m n o p q r s t u v x y z A B->
 ai t true (RR (av .eql 9 false false n j) B fun i B=>
 F (ao a 17) b c d e f g h i j k l m n o p q r s t u v x y z A B) (F (ao a 17) b c d e f g h undef j k l m n o p q r s t u v x y z A B))/\
 (∀ a:Nat->Bool,a 18=false->a 6=true->a 17=true->∀ b c d e f g h i j k l m n o p q r s t u v x y z A B,F a b c d e f g h i j k l m n o p q r s t u v x y z A B->
 RR (sOp (.pick (.const t) (.const i) (.const (.bool false))) 4) B fun h B=>
 F (ao a 18) b c d e f g h i j k l m n o p q r s t u v x y z A B)/\
 (∀ a:Nat->Bool,a 19=false->a 18=true->a 6=true->∀ b c d e f g h i j k l m n o p q r s t u v x y z A B,F a b c d e f g h i j k l m n o p q r s t u v x y z A B->
 F (ao a 19) b c d e f h h i j k l m n o p q r s t u v x y z A B)/\
 (∀ a:Nat->Bool,a 20=false->a 19=true->∀ b d e f g h i j k l m n o p q r s t u v x y z A B C,F a b d e f g h i j k l m n o p q r s t u v x y z A B C->
 ai h true (F (ao a 20) b d e f c h i j k l m n o p q r s t u v x y z A B C) (F (ao a 20) b d e f undef h i j k l m n o p q r s t u v x y z A B C))/\
 (∀ a:Nat->Bool,a 21=false->a 19=true->∀ b c d f g h i j k l m n o p q r s t u v x y z A B C,F a b c d f g h i j k l m n o p q r s t u v x y z A B C->
 ai h true (F (ao a 21) b c d e g h i j k l m n o p q r s t u v x y z A B C) (F (ao a 21) b c d undef g h i j k l m n o p q r s t u v x y z A B C))/\
 (∀ a:Nat->Bool,a 22=false->a 21=true->a 19=true->∀ b c d e f g h i j k l m n o p q r s t u v x y z A B,F a b c d e f g h i j k l m n o p q r s t u v x y z A B->
 ai g true (RR (aE .len #[9] 3 [false] [e]) B fun d B=>
 F (ao a 22) b c d e f g h i j k l m n o p q r s t u v x y z A B) (F (ao a 22) b c undef e f g h i j k l m n o p q r s t u v x y z A B))/\
 (∀ a:Nat->Bool,a 23=false->a 20=true->a 22=true->a 19=true->∀ b c d e f g h i j k l m n o p q r s t u v x y z A B,F a b c d e f g h i j k l m n o p q r s t u v x y z A B->
 ai g true (RR (av .gtr 3 false false f d) B fun c B=>
 F (ao a 23) b c d e f g h i j k l m n o p q r s t u v x y z A B) (F (ao a 23) b undef d e f g h i j k l m n o p q r s t u v x y z A B))/\
 (∀ a:Nat->Bool,a 24=false->a 19=true->a 23=true->∀ b c d e f g h i j k l m n o p q r s t u v x y z A B,F a b c d e f g h i j k l m n o p q r s t u v x y z A B->
 RR (sOp (.pick (.const g) (.const c) (.const (.bool false))) 4) B fun b B=>
 F (ao a 24) b c d e f g h i j k l m n o p q r s t u v x y z A B)/\
 True)/\
 ∀ c:Nat->Bool,c 24=true->c 23=true->c 22=true->c 21=true->c 20=true->c 19=true->c 18=true->c 17=true->c 16=true->c 15=true->c 14=true->c 13=true->c 12=true->c 11=true->c 10=true->c 9=true->c 8=true->c 7=true->c 6=true->c 5=true->c 4=true->c 3=true->c 2=true->c 1=true->c 0=true->∀ d f g h i j k l m n o p q r s t u v x y z A B C D E,F c d f g h i j k l m n o p q r s t u v x y z A B C D E->
 CondV d (
 RR (sOp (.indexAddr 55 (.const a) (.const b)) 0) E fun a b=>
 RR (sOp (.load 9 (.const a)) 9) b fun a b=>
 G a b) (
 G e E)))/\
 ∀ a _ _ _ _ _ _ _ _ _ _ _ _ _ _ _ _ _ _ _ _ _ _ _ _ _ _ _ _ _ _ _ _ _ _ _:Value,∀ f:World,G a f->
 RR (av .add 3 false true b (.int .i64 1)) f fun f g=>
 c f a g/\d f a g<d b e F)) (
 RR (av .eql 9 false true e (.string ⟨#[]⟩)) H fun a b=>
 CondV a (
 R (.returned (.tuple #[(.string ⟨#[]⟩),(.int .i64 (-1))])) b) (
 RR (aE .len #[9] 3 [false] [e]) b fun a b=>
 RR (av .add 3 false false p1 a) b fun a b=>
 R (.returned (.tuple #[e,a])) b)))))))
theorem xG {p0 p1:Value} {w:World} {R:Ending->World->Prop} (h:vp p0 p1 w R):Calls Tryz.prog 120 #[p0,p1] w R:=
  aK (.seq none .leaf (.seq none .leaf (.seq none (.one (.loop [6] .leaf)) (.seq none .leaf (.seq none .leaf (.seq none .leaf (.seq none .leaf (.seq none (.seq none .leaf (.one (.loop [9,7] (.seq none .leaf (.seq (some [7]) .leaf .leaf))))) .leaf)))))))) [p0,p1] bp Tryz.func120 (by kernel_rfl) (by kernel_rfl) h


/- loop.example/prologserver/spec.l2Terms : function 121 -/
def sd (p0 p1 p2 p3 p4:Value) (w:World) (R:Ending->World->Prop):Prop:=
 RR (aQ 23 0 []) w fun a b=>
 (∃ (c:Value->Value->World->Prop) (d:Value->Value->World->Nat),c p1 a b/\
 ∀ a _ _ _ _ _ _ _ _ _ _ _ _ _ _ _ _ _ _ _ _ b _ _ _ _ _ _ _ _ _ _ _ _ _ _ _ _ _ _:Value,∀ e:World,c a b e->
 RR (aF (.func (.func 98) #[] #[]) [p0,a,p2,(.int .i64 3)]) e fun f g=>
 RR (sOp (.extract (.const f) 0) 25) g fun g h=>
 RR (sOp (.extract (.const f) 1) 3) h fun f h=>
 RR (sOp (.alloc 25) 0) h fun h i=>
 RR (sOp (.store 25 (.const h) (.const g)) 0) i fun _ g=>
 RR (av .lss 3 false true f (.int .i64 0)) g fun g i=>
 CondV g (
 R (.returned (.tuple #[(Value.slice none 0 0),f])) i) (
 RR (sOp (.load 25 (.const h)) 25) i fun g h=>
 RR (aQ 23 1 [(0,g)]) h fun g h=>
 RR (aE .append #[23,23] 23 [false,false] [b,g]) h fun g h=>
 (∃ i:Value->World->Prop,(
 RR (aF (.func (.func 99) #[] #[]) [p0,f,p3]) h fun a b=>
 ai a false (
 RR (aF (.func (.func 99) #[] #[]) [p0,f,p4]) b fun b c=>
 RR (sOp (.pick (.const a) (.const (.bool true)) (.const b)) 4) c fun a b=>
 i a b) (
 RR (sOp (.pick (.const a) (.const (.bool true)) (.const undef)) 4) b fun a b=>
 i a b))/\
 ∀ h _ _ _ _ _ _ _ _ _:Value,∀ j:World,i h j->
 CondV h (
 R (.returned (.tuple #[g,f])) j) (
 RR (aF (.func (.func 99) #[] #[]) [p0,f,(.int .u8 44)]) j fun h i=>
 RR (sOp (.unOp .not 4 (.const h)) 4) i fun h i=>
 CondV h (
 RR (av .sub 3 true false (.int .i64 (-1)) f) i fun a b=>
 R (.returned (.tuple #[(Value.slice none 0 0),a])) b) (
 RR (av .add 3 false true f (.int .i64 1)) i fun f h=>
 c f g h/\d f g h<d a b e)))))
theorem wG {p0 p1 p2 p3 p4:Value} {w:World} {R:Ending->World->Prop} (h:sd p0 p1 p2 p3 p4 w R):Calls Tryz.prog 121 #[p0,p1,p2,p3,p4] w R:=
  aK (.seq none .leaf (.seq none .leaf (.one (.loop [1,12] (.one (.seq none .leaf (.seq none .leaf (.seq none .leaf (.seq none (.seq (some [39]) .leaf .leaf) .leaf))))))))) [p0,p1,p2,p3,p4] bp Tryz.func121 (by kernel_rfl) (by kernel_rfl) h


/- loop.example/prologserver/spec.l2Text : function 122 -/
def vJ (p0:Value) (w:World) (R:Ending->World->Prop):Prop:=
 RR (sOp (.box 25 (.const p0)) 0) w fun a b=>
 RR (sOp (.load 25 (.const a)) 25) b fun b c=>
 RR (aF (.func (.func 128) #[] #[]) [b]) c fun b c=>
 CondV b (
 RR (sOp (.load 25 (.const a)) 25) c fun a b=>
 RR (aF (.func (.func 129) #[] #[]) [a]) b fun a b=>
 R (.returned a) b) (
 RR (sOp (.load 25 (.const a)) 25) c fun b c=>
 RR (aF (.func (.func 130) #[] #[]) [b]) c fun b c=>
 CondV b (
 RR (sOp (.fieldAddr 25 (.const a) 2) 0) c fun b c=>
 RR (sOp (.load 9 (.const b)) 9) c fun b c=>
 RR (aF (.func (.func 80) #[] #[]) [b]) c fun b c=>
 (∃ d:Value->World->Prop,(
 RR (av .eql 3 false true b (.int .i64 3)) c fun a c=>
 CondV a (
 d (.int .i64 2) c) (
 d b c))/\
 ∀ c _ _:Value,∀ e:World,d c e->
 (∃ d:(Nat->Bool)->Value->Value->Value->Value->Value->Value->Value->Value->Value->Value->Value->Value->Value->Value->Value->Value->Value->Value->Value->World->Prop,d (fun _=>false) (.string ⟨#[]⟩) undef undef undef undef undef undef undef undef undef undef undef undef undef undef undef undef undef undef { e with drawn:=e.drawn+1 }/\(
 (∀ b:Nat->Bool,b 0=false->∀ c e f g h i j k l m n o p q r s t u v x,d b c e f g h i j k l m n o p q r s t u v x->
 RR (sOp (.fieldAddr 25 (.const a) 3) 0) x fun a v=>
 d (ao b 0) c e f g h i j k l m n o p q r s t u a v)/\
 (∀ a:Nat->Bool,a 1=false->a 0=true->∀ b c e f g h i j k l m n o p q r s t u v,d a b c e f g h i j k l m n o p q r s t u v->
 RR (sOp (.load 23 (.const u)) 23) v fun t v=>
 d (ao a 1) b c e f g h i j k l m n o p q r s t u v)/\
 (∀ a:Nat->Bool,a 2=false->a 1=true->∀ b c e f g h i j k l m n o p q r s t u v,d a b c e f g h i j k l m n o p q r s t u v->
 RR (sOp (.indexAddr 23 (.const t) (.const (.int .i64 0))) 0) v fun s v=>
 d (ao a 2) b c e f g h i j k l m n o p q r s t u v)/\
 (∀ a:Nat->Bool,a 3=false->a 2=true->∀ b c e f g h i j k l m n o p q r s t u v,d a b c e f g h i j k l m n o p q r s t u v->
 RR (sOp (.load 25 (.const s)) 25) v fun r v=>
 d (ao a 3) b c e f g h i j k l m n o p q r s t u v)/\
 (∀ a:Nat->Bool,a 4=false->∀ b e f g h i j k l m n o p q r s t u v x,d a b e f g h i j k l m n o p q r s t u v x->
 d (ao a 4) b e f g h i j k l m n o p q c s t u v x)/\
 (∀ a:Nat->Bool,a 5=false->a 3=true->a 4=true->∀ b c e f g h i j k l m n o p q r s t u v,d a b c e f g h i j k l m n o p q r s t u v->
 RR (aF (.func (.func 131) #[] #[]) [r,q]) v fun p v=>
 d (ao a 5) b c e f g h i j k l m n o p q r s t u v)/\
 (∀ b:Nat->Bool,b 6=false->∀ c e f g h i j k l m n o p q r s t u v x,d b c e f g h i j k l m n o p q r s t u v x->
 RR (sOp (.fieldAddr 25 (.const a) 2) 0) x fun a p=>
 d (ao b 6) c e f g h i j k l m n o a q r s t u v p)/\
 (∀ a:Nat->Bool,a 7=false->a 6=true->∀ b c e f g h i j k l m n o p q r s t u v,d a b c e f g h i j k l m n o p q r s t u v->
 RR (sOp (.load 9 (.const o)) 9) v fun n v=>
 d (ao a 7) b c e f g h i j k l m n o p q r s t u v)/\
 (∀ a:Nat->Bool,a 8=false->a 7=true->a 5=true->∀ b c e f g h i j k l m n o p q r s t u v,d a b c e f g h i j k l m n o p q r s t u v->
 RR (aF (.func (.func 132) #[] #[]) [n]) v fun m v=>
 d (ao a 8) b c e f g h i j k l m n o p q r s t u v)/\
 (∀ a:Nat->Bool,a 9=false->a 5=true->a 8=true->∀ b c e f g h i j k l m n o p q r s t u v,d a b c e f g h i j k l m n o p q r s t u v->
 RR (av .add 9 false false p m) v fun l v=>
 d (ao a 9) b c e f g h i j k l m n o p q r s t u v)/\
 (∀ b:Nat->Bool,b 10=false->∀ c e f g h i j k l m n o p q r s t u v x,d b c e f g h i j k l m n o p q r s t u v x->
 RR (sOp (.fieldAddr 25 (.const a) 3) 0) x fun a l=>
 d (ao b 10) c e f g h i j k a m n o p q r s t u v l)/\
 (∀ a:Nat->Bool,a 11=false->a 10=true->∀ b c e f g h i j k l m n o p q r s t u v,d a b c e f g h i j k l m n o p q r s t u v->
 RR (sOp (.load 23 (.const k)) 23) v fun j v=>
 d (ao a 11) b c e f g h i j k l m n o p q r s t u v)/\
 (∀ a:Nat->Bool,a 12=false->a 11=true->∀ b c e f g h i j k l m n o p q r s t u v,d a b c e f g h i j k l m n o p q r s t u v->
 RR (sOp (.indexAddr 23 (.const j) (.const (.int .i64 1))) 0) v fun i v=>
 d (ao a 12) b c e f g h i j k l m n o p q r s t u v)/\
 (∀ a:Nat->Bool,a 13=false->a 12=true->∀ b c e f g h i j k l m n o p q r s t u v,d a b c e f g h i j k l m n o p q r s t u v->
 RR (sOp (.load 25 (.const i)) 25) v fun h v=>
 d (ao a 13) b c e f g h i j k l m n o p q r s t u v)/\
 (∀ a:Nat->Bool,a 14=false->∀ c e f g h i j k l m n o p q r s t u v x,d a c e f g h i j k l m n o p q r s t u v x->
 d (ao a 14) c e f g b i j k l m n o p q r s t u v x)/\
 (∀ a:Nat->Bool,a 15=false->a 14=true->∀ b c e f g h i j k l m n o p q r s t u v,d a b c e f g h i j k l m n o p q r s t u v->
 RR (av .sub 3 false true g (.int .i64 1)) v fun f v=>
 d (ao a 15) b c e f g h i j k l m n o p q r s t u v)/\
 (∀ a:Nat->Bool,a 16=false->a 13=true->a 15=true->a 8=true->∀ b c e f g h i j k l m n o p q r s t u v,d a b c e f g h i j k l m n o p q r s t u v->
 RR (aF (.func (.func 133) #[] #[]) [h,f]) v fun e v=>
 d (ao a 16) b c e f g h i j k l m n o p q r s t u v)/\
 (∀ a:Nat->Bool,a 17=false->a 9=true->a 16=true->∀ b c e f g h i j k l m n o p q r s t u v,d a b c e f g h i j k l m n o p q r s t u v->
 RR (av .add 9 false false l e) v fun c v=>
 d (ao a 17) b c e f g h i j k l m n o p q r s t u v)/\
 (∀ a:Nat->Bool,a 18=false->a 17=true->a 16=true->a 0=true->a 1=true->a 2=true->a 3=true->a 4=true->a 5=true->a 6=true->a 7=true->a 8=true->a 9=true->a 10=true->a 11=true->a 12=true->a 13=true->a 14=true->a 15=true->a 16=true->a 17=true->∀ b c e f g h i j k l m n o p q r s t u v,d a b c e f g h i j k l m n o p q r s t u v->
 d (ao a 18) c c e f g h i j k l m n o p q r s t u v)/\
 True)/\
 ∀ a:Nat->Bool,a 18=true->a 17=true->a 16=true->a 15=true->a 14=true->a 13=true->a 12=true->a 11=true->a 10=true->a 9=true->a 8=true->a 7=true->a 6=true->a 5=true->a 4=true->a 3=true->a 2=true->a 1=true->a 0=true->∀ b c e f g h i j k l m n o p q r s t u v,d a b c e f g h i j k l m n o p q r s t u v->
 R (.returned b) v))) (
 (∃ b:Value->World->Prop,(
 RR (sOp (.fieldAddr 25 (.const a) 0) 0) c fun c d=>
 RR (sOp (.load 3 (.const c)) 3) d fun c d=>
 RR (av .eql 3 false true c (.int .i64 3)) d fun c d=>
 ai c true (
 RR (sOp (.fieldAddr 25 (.const a) 3) 0) d fun a d=>
 RR (sOp (.load 23 (.const a)) 23) d fun a d=>
 RR (aE .len #[23] 3 [false] [a]) d fun a d=>
 RR (av .gtr 3 false true a (.int .i64 0)) d fun a d=>
 RR (sOp (.pick (.const c) (.const a) (.const (.bool false))) 4) d fun a c=>
 b a c) (
 RR (sOp (.pick (.const c) (.const undef) (.const (.bool false))) 4) d fun a c=>
 b a c))/\
 ∀ c _ _ _ _ _ _ _ _ _:Value,∀ d:World,b c d->
 CondV c (
 (∃ b:(Nat->Bool)->Value->Value->Value->Value->Value->Value->Value->Value->Value->World->Prop,b (fun _=>false) (.string ⟨#[]⟩) undef undef undef undef undef undef undef undef { d with drawn:=d.drawn+1 }/\(
 (∀ c:Nat->Bool,c 0=false->∀ d e f g h i j k l m,b c d e f g h i j k l m->
 RR (sOp (.fieldAddr 25 (.const a) 2) 0) m fun a l=>
 b (ao c 0) d e f g h i j k a l)/\
 (∀ a:Nat->Bool,a 1=false->a 0=true->∀ c d e f g h i j k l,b a c d e f g h i j k l->
 RR (sOp (.load 9 (.const k)) 9) l fun j l=>
 b (ao a 1) c d e f g h i j k l)/\
 (∀ a:Nat->Bool,a 2=false->a 1=true->∀ c d e f g h i j k l,b a c d e f g h i j k l->
 RR (av .add 9 false true j (.string ⟨#[40]⟩)) l fun i l=>
 b (ao a 2) c d e f g h i j k l)/\
 (∀ c:Nat->Bool,c 3=false->∀ d e f g h i j k l m,b c d e f g h i j k l m->
 RR (sOp (.fieldAddr 25 (.const a) 3) 0) m fun a i=>
 b (ao c 3) d e f g h a j k l i)/\
 (∀ a:Nat->Bool,a 4=false->a 3=true->∀ c d e f g h i j k l,b a c d e f g h i j k l->
 RR (sOp (.load 23 (.const h)) 23) l fun g l=>
 b (ao a 4) c d e f g h i j k l)/\
 (∀ a:Nat->Bool,a 5=false->a 4=true->∀ c d e f g h i j k l,b a c d e f g h i j k l->
 RR (aF (.func (.func 134) #[] #[]) [g]) l fun f l=>
 b (ao a 5) c d e f g h i j k l)/\
 (∀ a:Nat->Bool,a 6=false->a 2=true->a 5=true->∀ c d e f g h i j k l,b a c d e f g h i j k l->
 RR (av .add 9 false false i f) l fun e l=>
 b (ao a 6) c d e f g h i j k l)/\
 (∀ a:Nat->Bool,a 7=false->a 6=true->∀ c d e f g h i j k l,b a c d e f g h i j k l->
 RR (av .add 9 false true e (.string ⟨#[41]⟩)) l fun d l=>
 b (ao a 7) c d e f g h i j k l)/\
 (∀ a:Nat->Bool,a 8=false->a 7=true->a 5=true->a 0=true->a 1=true->a 2=true->a 3=true->a 4=true->a 5=true->a 6=true->a 7=true->∀ c d e f g h i j k l,b a c d e f g h i j k l->
 b (ao a 8) d d e f g h i j k l)/\
 True)/\
 ∀ a:Nat->Bool,a 8=true->a 7=true->a 6=true->a 5=true->a 4=true->a 3=true->a 2=true->a 1=true->a 0=true->∀ c d e f g h i j k l,b a c d e f g h i j k l->
 R (.returned c) l)) (
 RR (sOp (.load 25 (.const a)) 25) d fun a b=>
 RR (aF (.func (.func 135) #[] #[]) [a]) b fun a b=>
 R (.returned a) b))))
theorem yO {p0:Value} {w:World} {R:Ending->World->Prop} (h:vJ p0 w R):Calls Tryz.prog 122 #[p0] w R:=
  aK (.seq none .leaf (.seq none (.one (.seq none .leaf (.two .leaf (.seq none .leaf (.two (.seq none .leaf (.seq none .leaf (.seq (some [4]) .leaf .leaf))) (.seq (some [37]) .leaf .leaf)))))) .leaf)) [p0] bp Tryz.func122 (by kernel_rfl) (by kernel_rfl) h


/- loop.example/prologserver/spec.l1Has : function 123 -/
def zm (p0 p1:Value) (w:World) (R:Ending->World->Prop):Prop:=
 (∃ (a:Value->World->Prop) (b:Value->World->Nat),a (.int .i64 0) w/\
 ∀ c _ _ _ _ _ _ _ _ _ _ _ _ _:Value,∀ d:World,a c d->
 RR (aE .len #[55] 3 [false] [p0]) d fun e f=>
 RR (av .lss 3 false false c e) f fun e f=>
 CondV e (
 RR (sOp (.indexAddr 55 (.const p0) (.const c)) 0) f fun e f=>
 RR (sOp (.load 9 (.const e)) 9) f fun e f=>
 RR (av .eql 9 false false e p1) f fun e f=>
 CondV e (
 R (.returned (.bool true)) f) (
 RR (av .add 3 false true c (.int .i64 1)) f fun e f=>
 a e f/\b e f<b c d)) (
 R (.returned (.bool false)) f))
theorem AE {p0 p1:Value} {w:World} {R:Ending->World->Prop} (h:zm p0 p1 w R):Calls Tryz.prog 123 #[p0,p1] w R:=
  aK (.seq none .leaf (.seq none (.seq none .leaf (.one (.loop [5] .leaf))) .leaf)) [p0,p1] bp Tryz.func123 (by kernel_rfl) (by kernel_rfl) h


/- loop.example/prologserver/spec.l1Signs : function 124 -/
def rN (w:World) (R:Ending->World->Prop):Prop:=
 RR (aQ 55 15 [(0,(.string ⟨#[43]⟩)),(1,(.string ⟨#[45]⟩)),(2,(.string ⟨#[42]⟩)),(3,(.string ⟨#[47,47]⟩)),(4,(.string ⟨#[61]⟩)),(5,(.string ⟨#[92,61]⟩)),(6,(.string ⟨#[61,61]⟩)),(7,(.string ⟨#[60]⟩)),(8,(.string ⟨#[62]⟩)),(9,(.string ⟨#[61,60]⟩)),(10,(.string ⟨#[62,61]⟩)),(11,(.string ⟨#[61,58,61]⟩)),(12,(.string ⟨#[46]⟩)),(13,(.string ⟨#[91,93]⟩)),(14,(.string ⟨#[33]⟩))]) w fun a b=>
 R (.returned a) b
theorem wi {w:World} {R:Ending->World->Prop} (h:rN w R):Calls Tryz.prog 124 #[] w R:=
  aK .leaf [] bp Tryz.func124 (by kernel_rfl) (by kernel_rfl) h


/- loop.example/prologserver/spec.l1Chain : function 125 -/
def tt (p0 p1:Value) (w:World) (R:Ending->World->Prop):Prop:=
 RR (sOp (.box 25 (.const p1)) 0) w fun a b=>
 RR (sOp (.alloc 25) 0) b fun b c=>
 RR (sOp (.load 25 (.const a)) 25) c fun a c=>
 RR (sOp (.alloc 25) 0) c fun c d=>
 RR (sOp (.store 25 (.const c) (.const a)) 0) d fun _ a=>
 RR (aE .len #[23] 3 [false] [p0]) a fun a d=>
 RR (av .sub 3 false true a (.int .i64 1)) d fun a d=>
 (∃ (e:Value->World->Prop) (f:Value->World->Nat),e a d/\
 ∀ a _ _ d g h i j k l _ _:Value,∀ m:World,e a m->
 RR (av .geq 3 false true a (.int .i64 0)) m fun n o=>
 CondV n (
 (∃ b:(Nat->Bool)->Value->Value->Value->Value->Value->Value->Value->World->Prop,b (fun _=>false) d g h i j k l { o with drawn:=o.drawn+1 }/\(
 (∀ a:Nat->Bool,a 0=false->∀ c d e f g h i j,b a c d e f g h i j->
 b (ao a 0) c d e f g h p0 j)/\
 (∀ c:Nat->Bool,c 1=false->∀ d e f g h i j k,b c d e f g h i j k->
 b (ao c 1) d e f g h a j k)/\
 (∀ a:Nat->Bool,a 2=false->a 0=true->a 1=true->∀ c d e f g h i j,b a c d e f g h i j->
 RR (sOp (.indexAddr 23 (.const i) (.const h)) 0) j fun g j=>
 b (ao a 2) c d e f g h i j)/\
 (∀ a:Nat->Bool,a 3=false->a 2=true->∀ c d e f g h i j,b a c d e f g h i j->
 RR (sOp (.load 25 (.const g)) 25) j fun f j=>
 b (ao a 3) c d e f g h i j)/\
 (∀ a:Nat->Bool,a 4=false->∀ d e f g h i j k,b a d e f g h i j k->
 RR (sOp (.load 25 (.const c)) 25) k fun c f=>
 b (ao a 4) d e c g h i j f)/\
 (∀ a:Nat->Bool,a 5=false->a 3=true->a 4=true->∀ c d e f g h i j,b a c d e f g h i j->
 RR (aQ 23 2 [(0,f),(1,e)]) j fun d j=>
 b (ao a 5) c d e f g h i j)/\
 (∀ a:Nat->Bool,a 6=false->a 5=true->∀ c d e f g h i j,b a c d e f g h i j->
 RR (aF (.func (.func 38) #[] #[]) [(.string ⟨#[46]⟩),d]) j fun c j=>
 b (ao a 6) c d e f g h i j)/\
 (∀ a:Nat->Bool,a 7=false->a 6=true->a 6=true->a 0=true->a 1=true->a 2=true->a 3=true->a 4=true->a 5=true->a 6=true->∀ d e f g h i j k,b a d e f g h i j k->
 RR (sOp (.store 25 (.const c) (.const d)) 0) k fun _ c=>
 b (ao a 7) d e f g h i j c)/\
 True)/\
 ∀ c:Nat->Bool,c 7=true->c 6=true->c 5=true->c 4=true->c 3=true->c 2=true->c 1=true->c 0=true->∀ d g h i j k l n,b c d g h i j k l n->
 RR (av .sub 3 false true a (.int .i64 1)) n fun b c=>
 e b c/\f b c<f a m)) (
 RR (sOp (.load 25 (.const c)) 25) o fun a c=>
 RR (sOp (.store 25 (.const b) (.const a)) 0) c fun _ a=>
 (a4 Tryz.prog 25 b a fun b=>R (.returned b) a)))
theorem wl {p0 p1:Value} {w:World} {R:Ending->World->Prop} (h:tt p0 p1 w R):Calls Tryz.prog 125 #[p0,p1] w R:=
  aK (.seq none .leaf (.seq none .leaf (.seq none (.seq none .leaf (.one (.loop [6] .leaf))) .leaf))) [p0,p1] bp Tryz.func125 (by kernel_rfl) (by kernel_rfl) h


/- loop.example/prologserver/spec.l18Num : function 126 -/
def u4 (p0:Value) (w:World) (R:Ending->World->Prop):Prop:=
 (∃ a:Value->World->Prop,(
 RR (aE .len #[9] 3 [false] [p0]) w fun b c=>
 RR (av .gtr 3 false true b (.int .i64 0)) c fun b c=>
 ai b true (
 RR (sOp (.index 9 (.const p0) (.const (.int .i64 0))) 5) c fun c d=>
 RR (av .eql 5 false true c (.int .u8 45)) d fun c d=>
 RR (sOp (.pick (.const b) (.const c) (.const (.bool false))) 4) d fun b c=>
 a b c) (
 RR (sOp (.pick (.const b) (.const undef) (.const (.bool false))) 4) c fun b c=>
 a b c))/\
 ∀ b _ _ _ _ _ _ _ _:Value,∀ c:World,a b c->
 (∃ a:Value->World->Prop,(
 CondV b (
 RR (sOp (.slice 9 (.const p0) (some (.const (.int .i64 1))) none none) 9) c fun b c=>
 a b c) (
 a p0 c))/\
 ∀ c _ _ _:Value,∀ d:World,a c d->
 (∃ a:Value->World->Prop,(
 RR (aE .len #[9] 3 [false] [c]) d fun d e=>
 RR (av .eql 3 false true d (.int .i64 0)) e fun d e=>
 ((fun a:VW=>ai d false (
 RR (aE .len #[9] 3 [false] [c]) e fun b c=>
 RR (av .gtr 3 false true b (.int .i64 17)) c fun b c=>
 RR (sOp (.pick (.const d) (.const (.bool true)) (.const b)) 4) c fun b c=>a b c) (
 RR (sOp (.pick (.const d) (.const (.bool true)) (.const undef)) 4) e fun b c=>a b c)) fun d e=>
 ai d false (
 RR (sOp (.index 9 (.const c) (.const (.int .i64 0))) 5) e fun e f=>
 RR (av .eql 5 false true e (.int .u8 48)) f fun e f=>
 ai e true (
 RR (aE .len #[9] 3 [false] [c]) f fun c f=>
 RR (av .gtr 3 false true c (.int .i64 1)) f fun c f=>
 ai c false (
 ai e true (
 RR (sOp (.pick (.const c) (.const (.bool true)) (.const b)) 4) f fun b c=>
 ai d false (
 RR (sOp (.pick (.const e) (.const b) (.const (.bool false))) 4) c fun b c=>
 RR (sOp (.pick (.const d) (.const (.bool true)) (.const b)) 4) c fun b c=>
 a b c) (
 RR (sOp (.pick (.const d) (.const (.bool true)) (.const undef)) 4) c fun b c=>
 a b c)) (
 ai d false (
 RR (sOp (.pick (.const e) (.const undef) (.const (.bool false))) 4) f fun b c=>
 RR (sOp (.pick (.const d) (.const (.bool true)) (.const b)) 4) c fun b c=>
 a b c) (
 RR (sOp (.pick (.const d) (.const (.bool true)) (.const undef)) 4) f fun b c=>
 a b c))) (
 ai e true (
 RR (sOp (.pick (.const c) (.const (.bool true)) (.const undef)) 4) f fun b c=>
 ai d false (
 RR (sOp (.pick (.const e) (.const b) (.const (.bool false))) 4) c fun b c=>
 RR (sOp (.pick (.const d) (.const (.bool true)) (.const b)) 4) c fun b c=>
 a b c) (
 RR (sOp (.pick (.const d) (.const (.bool true)) (.const undef)) 4) c fun b c=>
 a b c)) (
 ai d false (
 RR (sOp (.pick (.const e) (.const undef) (.const (.bool false))) 4) f fun b c=>
 RR (sOp (.pick (.const d) (.const (.bool true)) (.const b)) 4) c fun b c=>
 a b c) (
 RR (sOp (.pick (.const d) (.const (.bool true)) (.const undef)) 4) f fun b c=>
 a b c)))) (
 ai undef false (
 ai e true (
 RR (sOp (.pick (.const undef) (.const (.bool true)) (.const b)) 4) f fun b c=>
 ai d false (
 RR (sOp (.pick (.const e) (.const b) (.const (.bool false))) 4) c fun b c=>
 RR (sOp (.pick (.const d) (.const (.bool true)) (.const b)) 4) c fun b c=>
 a b c) (
 RR (sOp (.pick (.const d) (.const (.bool true)) (.const undef)) 4) c fun b c=>
 a b c)) (
 ai d false (
 RR (sOp (.pick (.const e) (.const undef) (.const (.bool false))) 4) f fun b c=>
 RR (sOp (.pick (.const d) (.const (.bool true)) (.const b)) 4) c fun b c=>
 a b c) (
 RR (sOp (.pick (.const d) (.const (.bool true)) (.const undef)) 4) f fun b c=>
 a b c))) (
 ai e true (
 RR (sOp (.pick (.const undef) (.const (.bool true)) (.const undef)) 4) f fun b c=>
 ai d false (
 RR (sOp (.pick (.const e) (.const b) (.const (.bool false))) 4) c fun b c=>
 RR (sOp (.pick (.const d) (.const (.bool true)) (.const b)) 4) c fun b c=>
 a b c) (
 RR (sOp (.pick (.const d) (.const (.bool true)) (.const undef)) 4) c fun b c=>
 a b c)) (
 ai d false (
 RR (sOp (.pick (.const e) (.const undef) (.const (.bool false))) 4) f fun b c=>
 RR (sOp (.pick (.const d) (.const (.bool true)) (.const b)) 4) c fun b c=>
 a b c) (
 RR (sOp (.pick (.const d) (.const (.bool true)) (.const undef)) 4) f fun b c=>
 a b c))))) (
 ai undef true (
 RR (aE .len #[9] 3 [false] [c]) e fun c e=>
 RR (av .gtr 3 false true c (.int .i64 1)) e fun c e=>
 ai c false (
 ai undef true (
 RR (sOp (.pick (.const c) (.const (.bool true)) (.const b)) 4) e fun b c=>
 ai d false (
 RR (sOp (.pick (.const undef) (.const b) (.const (.bool false))) 4) c fun b c=>
 RR (sOp (.pick (.const d) (.const (.bool true)) (.const b)) 4) c fun b c=>
 a b c) (
 RR (sOp (.pick (.const d) (.const (.bool true)) (.const undef)) 4) c fun b c=>
 a b c)) (
 ai d false (
 RR (sOp (.pick (.const undef) (.const undef) (.const (.bool false))) 4) e fun b c=>
 RR (sOp (.pick (.const d) (.const (.bool true)) (.const b)) 4) c fun b c=>
 a b c) (
 RR (sOp (.pick (.const d) (.const (.bool true)) (.const undef)) 4) e fun b c=>
 a b c))) (
 ai undef true (
 RR (sOp (.pick (.const c) (.const (.bool true)) (.const undef)) 4) e fun b c=>
 ai d false (
 RR (sOp (.pick (.const undef) (.const b) (.const (.bool false))) 4) c fun b c=>
 RR (sOp (.pick (.const d) (.const (.bool true)) (.const b)) 4) c fun b c=>
 a b c) (
 RR (sOp (.pick (.const d) (.const (.bool true)) (.const undef)) 4) c fun b c=>
 a b c)) (
 ai d false (
 RR (sOp (.pick (.const undef) (.const undef) (.const (.bool false))) 4) e fun b c=>
 RR (sOp (.pick (.const d) (.const (.bool true)) (.const b)) 4) c fun b c=>
 a b c) (
 RR (sOp (.pick (.const d) (.const (.bool true)) (.const undef)) 4) e fun b c=>
 a b c)))) (
 ai undef false (
 ai undef true (
 RR (sOp (.pick (.const undef) (.const (.bool true)) (.const b)) 4) e fun b c=>
 ai d false (
 RR (sOp (.pick (.const undef) (.const b) (.const (.bool false))) 4) c fun b c=>
 RR (sOp (.pick (.const d) (.const (.bool true)) (.const b)) 4) c fun b c=>
 a b c) (
 RR (sOp (.pick (.const d) (.const (.bool true)) (.const undef)) 4) c fun b c=>
 a b c)) (
 ai d false (
 RR (sOp (.pick (.const undef) (.const undef) (.const (.bool false))) 4) e fun b c=>
 RR (sOp (.pick (.const d) (.const (.bool true)) (.const b)) 4) c fun b c=>
 a b c) (
 RR (sOp (.pick (.const d) (.const (.bool true)) (.const undef)) 4) e fun b c=>
 a b c))) (
 ai undef true (
 RR (sOp (.pick (.const undef) (.const (.bool true)) (.const undef)) 4) e fun b c=>
 ai d false (
 RR (sOp (.pick (.const undef) (.const b) (.const (.bool false))) 4) c fun b c=>
 RR (sOp (.pick (.const d) (.const (.bool true)) (.const b)) 4) c fun b c=>
 a b c) (
 RR (sOp (.pick (.const d) (.const (.bool true)) (.const undef)) 4) c fun b c=>
 a b c)) (
 ai d false (
 RR (sOp (.pick (.const undef) (.const undef) (.const (.bool false))) 4) e fun b c=>
 RR (sOp (.pick (.const d) (.const (.bool true)) (.const b)) 4) c fun b c=>
 a b c) (
 RR (sOp (.pick (.const d) (.const (.bool true)) (.const undef)) 4) e fun b c=>
 a b c)))))))/\
 ∀ d _ _ _ _ _ _ _ _ _ _ _ _ _ _ _ _ _ _ _ _:Value,∀ e:World,a d e->
 CondV d (
 R (.returned (.tuple #[(.int .i64 0),(.bool false)])) e) (
 (∃ (a:Value->Value->World->Prop) (d:Value->Value->World->Nat),a (.int .i64 0) (.int .i64 0) e/\
 ∀ e _ _ f _ _ _ _ _ _ _ _ _ _ _ _ _ _ _ _ _ _ _ _ _ _ _ _:Value,∀ g:World,a e f g->
 RR (aE .len #[9] 3 [false] [c]) g fun h i=>
 RR (av .lss 3 false false e h) i fun h i=>
 CondV h (
 (∃ b:Value->World->Prop,(
 RR (sOp (.index 9 (.const c) (.const e)) 5) i fun a d=>
 RR (av .lss 5 false true a (.int .u8 48)) d fun a d=>
 ai a false (
 RR (sOp (.index 9 (.const c) (.const e)) 5) d fun c d=>
 RR (av .gtr 5 false true c (.int .u8 57)) d fun c d=>
 RR (sOp (.pick (.const a) (.const (.bool true)) (.const c)) 4) d fun a c=>
 b a c) (
 RR (sOp (.pick (.const a) (.const (.bool true)) (.const undef)) 4) d fun a c=>
 b a c))/\
 ∀ h _ _ _ _ _ _ _ _ _:Value,∀ i:World,b h i->
 CondV h (
 R (.returned (.tuple #[(.int .i64 0),(.bool false)])) i) (
 RR (av .mul 3 false true f (.int .i64 10)) i fun b h=>
 RR (sOp (.index 9 (.const c) (.const e)) 5) h fun c h=>
 RR (av .sub 5 false true c (.int .u8 48)) h fun c h=>
 RR (sOp (.convert 5 3 (.const c)) 3) h fun c h=>
 RR (av .add 3 false false b c) h fun b c=>
 RR (av .add 3 false true e (.int .i64 1)) c fun c h=>
 a c b h/\d c b h<d e f g))) (
 (∃ a:Value->World->Prop,(
 CondV b (
 RR (sOp (.unOp .neg 3 (.const f)) 3) i fun b c=>
 a b c) (
 a f i))/\
 ∀ b _ _ _:Value,∀ c:World,a b c->
 R (.returned (.tuple #[b,(.bool true)])) c)))))))
theorem yF {p0:Value} {w:World} {R:Ending->World->Prop} (h:u4 p0 w R):Calls Tryz.prog 126 #[p0] w R:=
  aK (.seq none .leaf (.seq (some [4]) .leaf (.seq (some [0]) .leaf (.seq none (.seq (some [38]) .leaf .leaf) (.seq none .leaf (.seq none (.seq none .leaf (.one (.loop [6,5] (.seq none .leaf (.seq none (.one (.seq none (.seq (some [54]) .leaf .leaf) .leaf)) .leaf))))) (.seq (some [5]) .leaf .leaf))))))) [p0] bp Tryz.func126 (by kernel_rfl) (by kernel_rfl) h


/- loop.example/prologserver/spec.l1Small : function 127 -/
def ry (p0 p1:Value) (w:World) (R:Ending->World->Prop):Prop:=
 RR (av .geq 3 false true p1 (.int .i64 0)) w fun a b=>
 ((fun c:VW=>ai a true (
 RR (aE .len #[9] 3 [false] [p0]) b fun b d=>
 RR (av .lss 3 false false p1 b) d fun b d=>
 RR (sOp (.pick (.const a) (.const b) (.const (.bool false))) 4) d fun a b=>c a b) (
 RR (sOp (.pick (.const a) (.const undef) (.const (.bool false))) 4) b fun a b=>c a b)) fun a b=>
 ((fun c:VW=>ai a true (
 RR (sOp (.index 9 (.const p0) (.const p1)) 5) b fun b d=>
 RR (av .geq 5 false true b (.int .u8 97)) d fun b d=>
 RR (sOp (.pick (.const a) (.const b) (.const (.bool false))) 4) d fun a b=>c a b) (
 RR (sOp (.pick (.const a) (.const undef) (.const (.bool false))) 4) b fun a b=>c a b)) fun a b=>
 ai a true (
 RR (sOp (.index 9 (.const p0) (.const p1)) 5) b fun b c=>
 RR (av .leq 5 false true b (.int .u8 122)) c fun b c=>
 RR (sOp (.pick (.const a) (.const b) (.const (.bool false))) 4) c fun a b=>
 R (.returned a) b) (
 RR (sOp (.pick (.const a) (.const undef) (.const (.bool false))) 4) b fun a b=>
 R (.returned a) b)))
theorem ww {p0 p1:Value} {w:World} {R:Ending->World->Prop} (h:ry p0 p1 w R):Calls Tryz.prog 127 #[p0,p1] w R:=
  aK .leaf [p0,p1] bp Tryz.func127 (by kernel_rfl) (by kernel_rfl) h


/- loop.example/prologserver/spec.l1Pair : function 128 -/
def vL (p0:Value) (w:World) (R:Ending->World->Prop):Prop:=
 RR (sOp (.box 25 (.const p0)) 0) w fun a b=>
 RR (sOp (.fieldAddr 25 (.const a) 0) 0) b fun b c=>
 RR (sOp (.load 3 (.const b)) 3) c fun b c=>
 RR (av .eql 3 false true b (.int .i64 3)) c fun b c=>
 ((fun d:VW=>ai b true (
 RR (sOp (.fieldAddr 25 (.const a) 2) 0) c fun a c=>
 RR (sOp (.load 9 (.const a)) 9) c fun a c=>
 RR (av .eql 9 false true a (.string ⟨#[46]⟩)) c fun a c=>
 RR (sOp (.pick (.const b) (.const a) (.const (.bool false))) 4) c fun a b=>d a b) (
 RR (sOp (.pick (.const b) (.const undef) (.const (.bool false))) 4) c fun a b=>d a b)) fun b c=>
 ai b true (
 RR (sOp (.fieldAddr 25 (.const a) 3) 0) c fun a c=>
 RR (sOp (.load 23 (.const a)) 23) c fun a c=>
 RR (aE .len #[23] 3 [false] [a]) c fun a c=>
 RR (av .eql 3 false true a (.int .i64 2)) c fun a c=>
 RR (sOp (.pick (.const b) (.const a) (.const (.bool false))) 4) c fun a b=>
 R (.returned a) b) (
 RR (sOp (.pick (.const b) (.const undef) (.const (.bool false))) 4) c fun a b=>
 R (.returned a) b))
theorem y0 {p0:Value} {w:World} {R:Ending->World->Prop} (h:vL p0 w R):Calls Tryz.prog 128 #[p0] w R:=
  aK .leaf [p0] bp Tryz.func128 (by kernel_rfl) (by kernel_rfl) h


/- loop.example/prologserver/spec.l2List : function 129 -/
def v4 (p0:Value) (w:World) (R:Ending->World->Prop):Prop:=
 RR (sOp (.box 25 (.const p0)) 0) w fun a b=>
 RR (aQ 23 0 []) b fun b c=>
 (∃ (d:Value->World->Prop) (e:Value->World->Nat),d b c/\
 ∀ _ _ _ _ b _ _ _ _ _ _ _ _ _:Value,∀ c:World,d b c->
 RR (sOp (.load 25 (.const a)) 25) c fun f g=>
 RR (aF (.func (.func 128) #[] #[]) [f]) g fun f g=>
 CondV f (
 RR (sOp (.fieldAddr 25 (.const a) 3) 0) g fun f g=>
 RR (sOp (.load 23 (.const f)) 23) g fun f g=>
 RR (sOp (.indexAddr 23 (.const f) (.const (.int .i64 0))) 0) g fun f g=>
 RR (sOp (.load 25 (.const f)) 25) g fun f g=>
 RR (aQ 23 1 [(0,f)]) g fun f g=>
 RR (aE .append #[23,23] 23 [false,false] [b,f]) g fun f g=>
 RR (sOp (.fieldAddr 25 (.const a) 3) 0) g fun g h=>
 RR (sOp (.load 23 (.const g)) 23) h fun g h=>
 RR (sOp (.indexAddr 23 (.const g) (.const (.int .i64 1))) 0) h fun g h=>
 RR (sOp (.load 25 (.const g)) 25) h fun g h=>
 RR (sOp (.store 25 (.const a) (.const g)) 0) h fun _ a=>
 d f a/\e f a<e b c) (
 RR (sOp (.load 25 (.const a)) 25) g fun c d=>
 RR (aF (.func (.func 136) #[] #[]) [c]) d fun c d=>
 CondV c (
 RR (aF (.func (.func 134) #[] #[]) [b]) d fun a b=>
 RR (av .add 9 true false (.string ⟨#[91]⟩) a) b fun a b=>
 RR (av .add 9 false true a (.string ⟨#[93]⟩)) b fun a b=>
 R (.returned a) b) (
 (∃ c:(Nat->Bool)->Value->Value->Value->Value->Value->Value->Value->Value->Value->World->Prop,c (fun _=>false) (.string ⟨#[]⟩) undef undef undef undef undef undef undef undef { d with drawn:=d.drawn+1 }/\(
 (∀ a:Nat->Bool,a 0=false->∀ d e f g h i j k l m,c a d e f g h i j k l m->
 c (ao a 0) d e f g h i j k b m)/\
 (∀ a:Nat->Bool,a 1=false->a 0=true->∀ b d e f g h i j k l,c a b d e f g h i j k l->
 RR (aF (.func (.func 134) #[] #[]) [k]) l fun j l=>
 c (ao a 1) b d e f g h i j k l)/\
 (∀ a:Nat->Bool,a 2=false->a 1=true->∀ b d e f g h i j k l,c a b d e f g h i j k l->
 RR (av .add 9 true false (.string ⟨#[91]⟩) j) l fun i l=>
 c (ao a 2) b d e f g h i j k l)/\
 (∀ a:Nat->Bool,a 3=false->a 2=true->∀ b d e f g h i j k l,c a b d e f g h i j k l->
 RR (av .add 9 false true i (.string ⟨#[124]⟩)) l fun h l=>
 c (ao a 3) b d e f g h i j k l)/\
 (∀ b:Nat->Bool,b 4=false->∀ d e f g h i j k l m,c b d e f g h i j k l m->
 RR (sOp (.load 25 (.const a)) 25) m fun a h=>
 c (ao b 4) d e f g a i j k l h)/\
 (∀ a:Nat->Bool,a 5=false->a 4=true->a 1=true->∀ b d e f g h i j k l,c a b d e f g h i j k l->
 RR (aF (.func (.func 122) #[] #[]) [g]) l fun f l=>
 c (ao a 5) b d e f g h i j k l)/\
 (∀ a:Nat->Bool,a 6=false->a 3=true->a 5=true->∀ b d e f g h i j k l,c a b d e f g h i j k l->
 RR (av .add 9 false false h f) l fun e l=>
 c (ao a 6) b d e f g h i j k l)/\
 (∀ a:Nat->Bool,a 7=false->a 6=true->∀ b d e f g h i j k l,c a b d e f g h i j k l->
 RR (av .add 9 false true e (.string ⟨#[93]⟩)) l fun d l=>
 c (ao a 7) b d e f g h i j k l)/\
 (∀ a:Nat->Bool,a 8=false->a 7=true->a 5=true->a 0=true->a 1=true->a 2=true->a 3=true->a 4=true->a 5=true->a 6=true->a 7=true->∀ b d e f g h i j k l,c a b d e f g h i j k l->
 c (ao a 8) d d e f g h i j k l)/\
 True)/\
 ∀ a:Nat->Bool,a 8=true->a 7=true->a 6=true->a 5=true->a 4=true->a 3=true->a 2=true->a 1=true->a 0=true->∀ b d e f g h i j k l,c a b d e f g h i j k l->
 R (.returned b) l))))
theorem xA {p0:Value} {w:World} {R:Ending->World->Prop} (h:v4 p0 w R):Calls Tryz.prog 129 #[p0] w R:=
  aK (.seq none .leaf (.seq none .leaf (.seq none (.one (.loop [3] .leaf)) .leaf))) [p0] bp Tryz.func129 (by kernel_rfl) (by kernel_rfl) h


/- loop.example/prologserver/spec.l2Infix : function 130 -/
def rG (p0:Value) (w:World) (R:Ending->World->Prop):Prop:=
 RR (sOp (.box 25 (.const p0)) 0) w fun a b=>
 RR (sOp (.fieldAddr 25 (.const a) 0) 0) b fun b c=>
 RR (sOp (.load 3 (.const b)) 3) c fun b c=>
 RR (av .eql 3 false true b (.int .i64 3)) c fun b c=>
 ((fun d:VW=>ai b true (
 RR (sOp (.fieldAddr 25 (.const a) 3) 0) c fun a c=>
 RR (sOp (.load 23 (.const a)) 23) c fun a c=>
 RR (aE .len #[23] 3 [false] [a]) c fun a c=>
 RR (av .eql 3 false true a (.int .i64 2)) c fun a c=>
 RR (sOp (.pick (.const b) (.const a) (.const (.bool false))) 4) c fun a b=>d a b) (
 RR (sOp (.pick (.const b) (.const undef) (.const (.bool false))) 4) c fun a b=>d a b)) fun b c=>
 ai b true (
 RR (sOp (.fieldAddr 25 (.const a) 2) 0) c fun a c=>
 RR (sOp (.load 9 (.const a)) 9) c fun a c=>
 RR (aF (.func (.func 80) #[] #[]) [a]) c fun a c=>
 RR (av .gtr 3 false true a (.int .i64 0)) c fun a c=>
 RR (sOp (.pick (.const b) (.const a) (.const (.bool false))) 4) c fun a b=>
 R (.returned a) b) (
 RR (sOp (.pick (.const b) (.const undef) (.const (.bool false))) 4) c fun a b=>
 R (.returned a) b))
theorem wd {p0:Value} {w:World} {R:Ending->World->Prop} (h:rG p0 w R):Calls Tryz.prog 130 #[p0] w R:=
  aK .leaf [p0] bp Tryz.func130 (by kernel_rfl) (by kernel_rfl) h


/- loop.example/prologserver/spec.l2Left : function 131 -/
def vg (p0 p1:Value) (w:World) (R:Ending->World->Prop):Prop:=
 RR (sOp (.box 25 (.const p0)) 0) w fun a b=>
 RR (sOp (.load 25 (.const a)) 25) b fun b c=>
 RR (aF (.func (.func 137) #[] #[]) [b]) c fun b c=>
 CondV b (
 RR (sOp (.load 25 (.const a)) 25) c fun a b=>
 RR (aF (.func (.func 122) #[] #[]) [a]) b fun a b=>
 RR (av .add 9 true false (.string ⟨#[40]⟩) a) b fun a b=>
 RR (av .add 9 false true a (.string ⟨#[41]⟩)) b fun a b=>
 R (.returned a) b) (
 RR (sOp (.load 25 (.const a)) 25) c fun a b=>
 RR (aF (.func (.func 138) #[] #[]) [a,p1]) b fun a b=>
 R (.returned a) b)
theorem xy {p0 p1:Value} {w:World} {R:Ending->World->Prop} (h:vg p0 p1 w R):Calls Tryz.prog 131 #[p0,p1] w R:=
  aK .leaf [p0,p1] bp Tryz.func131 (by kernel_rfl) (by kernel_rfl) h


/- loop.example/prologserver/spec.l2Spaced : function 132 -/
def pH (p0:Value) (w:World) (R:Ending->World->Prop):Prop:=
 (∃ a:Value->World->Prop,(
 RR (av .eql 9 false true p0 (.string ⟨#[105,115]⟩)) w fun b c=>
 ai b false (
 RR (av .eql 9 false true p0 (.string ⟨#[109,111,100]⟩)) c fun c d=>
 RR (sOp (.pick (.const b) (.const (.bool true)) (.const c)) 4) d fun b c=>
 a b c) (
 RR (sOp (.pick (.const b) (.const (.bool true)) (.const undef)) 4) c fun b c=>
 a b c))/\
 ∀ b _ _ _ _ _:Value,∀ c:World,a b c->
 CondV b (
 RR (av .add 9 true false (.string ⟨#[32]⟩) p0) c fun a b=>
 RR (av .add 9 false true a (.string ⟨#[32]⟩)) b fun a b=>
 R (.returned a) b) (
 R (.returned p0) c))
theorem tO {p0:Value} {w:World} {R:Ending->World->Prop} (h:pH p0 w R):Calls Tryz.prog 132 #[p0] w R:=
  aK (.seq none .leaf (.seq none (.seq (some [8]) .leaf .leaf) .leaf)) [p0] bp Tryz.func132 (by kernel_rfl) (by kernel_rfl) h


/- loop.example/prologserver/spec.l2Right : function 133 -/
def rE (p0 p1:Value) (w:World) (R:Ending->World->Prop):Prop:=
 RR (sOp (.box 25 (.const p0)) 0) w fun a b=>
 RR (sOp (.load 25 (.const a)) 25) b fun b c=>
 RR (aF (.func (.func 138) #[] #[]) [b,p1]) c fun b c=>
 (∃ d:Value->World->Prop,(
 RR (sOp (.load 25 (.const a)) 25) c fun a c=>
 RR (aF (.func (.func 137) #[] #[]) [a]) c fun a c=>
 ai a false (
 RR (aF (.func (.func 139) #[] #[]) [b]) c fun b c=>
 RR (sOp (.unOp .not 4 (.const b)) 4) c fun b c=>
 RR (sOp (.pick (.const a) (.const (.bool true)) (.const b)) 4) c fun a b=>
 d a b) (
 RR (sOp (.pick (.const a) (.const (.bool true)) (.const undef)) 4) c fun a b=>
 d a b))/\
 ∀ a _ _ _ _ _ _:Value,∀ c:World,d a c->
 CondV a (
 RR (av .add 9 true false (.string ⟨#[40]⟩) b) c fun a b=>
 RR (av .add 9 false true a (.string ⟨#[41]⟩)) b fun a b=>
 R (.returned a) b) (
 R (.returned b) c))
theorem wz {p0 p1:Value} {w:World} {R:Ending->World->Prop} (h:rE p0 p1 w R):Calls Tryz.prog 133 #[p0,p1] w R:=
  aK (.seq none .leaf (.seq none .leaf (.seq none (.seq (some [15]) .leaf .leaf) .leaf))) [p0,p1] bp Tryz.func133 (by kernel_rfl) (by kernel_rfl) h


/- loop.example/prologserver/spec.l2Args : function 134 -/
def vY (p0:Value) (w:World) (R:Ending->World->Prop):Prop:=
 (∃ (a:Value->Value->World->Prop) (b:Value->Value->World->Nat),a (.int .i64 0) (.string ⟨#[]⟩) w/\
 ∀ c _ _ _ _ _ _ _ _ _ d _ _ _ _ _ _ _ _:Value,∀ e:World,a c d e->
 RR (aE .len #[23] 3 [false] [p0]) e fun f g=>
 RR (av .lss 3 false false c f) g fun f g=>
 CondV f (
 (∃ f:Value->World->Prop,(
 RR (av .gtr 3 false true c (.int .i64 0)) g fun a b=>
 CondV a (
 RR (av .add 9 false true d (.string ⟨#[44]⟩)) b fun a b=>
 f a b) (
 f d b))/\
 ∀ g _ _ _ _:Value,∀ h:World,f g h->
 RR (sOp (.indexAddr 23 (.const p0) (.const c)) 0) h fun f h=>
 RR (sOp (.load 25 (.const f)) 25) h fun f h=>
 RR (aF (.func (.func 122) #[] #[]) [f]) h fun f h=>
 RR (av .add 9 false false g f) h fun f g=>
 RR (av .add 3 false true c (.int .i64 1)) g fun g h=>
 a g f h/\b g f h<b c d e)) (
 R (.returned d) g))
theorem zo {p0:Value} {w:World} {R:Ending->World->Prop} (h:vY p0 w R):Calls Tryz.prog 134 #[p0] w R:=
  aK (.seq none .leaf (.seq none .leaf (.seq none (.seq none .leaf (.one (.loop [4,3] (.seq none .leaf (.seq none (.one (.seq (some [3]) .leaf .leaf)) .leaf))))) .leaf))) [p0] bp Tryz.func134 (by kernel_rfl) (by kernel_rfl) h


/- loop.example/prologserver/spec.l1Text : function 135 -/
def vS (p0:Value) (w:World) (R:Ending->World->Prop):Prop:=
 RR (sOp (.box 25 (.const p0)) 0) w fun a b=>
 RR (sOp (.fieldAddr 25 (.const a) 0) 0) b fun b c=>
 RR (sOp (.load 3 (.const b)) 3) c fun b c=>
 RR (av .eql 3 false true b (.int .i64 1)) c fun c d=>
 CondV c (
 RR (sOp (.fieldAddr 25 (.const a) 1) 0) d fun a b=>
 RR (sOp (.load 3 (.const a)) 3) b fun a b=>
 RR (aF (.func (.func 140) #[] #[]) [a]) b fun a b=>
 R (.returned a) b) (
 RR (av .eql 3 false true b (.int .i64 2)) d fun b c=>
 CondV b (
 RR (sOp (.fieldAddr 25 (.const a) 1) 0) c fun a b=>
 RR (sOp (.load 3 (.const a)) 3) b fun a b=>
 RR (aF (.func (.func 141) #[] #[]) [a]) b fun a b=>
 R (.returned a) b) (
 RR (sOp (.load 25 (.const a)) 25) c fun b c=>
 RR (aF (.func (.func 128) #[] #[]) [b]) c fun b c=>
 CondV b (
 RR (sOp (.load 25 (.const a)) 25) c fun a b=>
 RR (aF (.func (.func 142) #[] #[]) [a]) b fun a b=>
 R (.returned a) b) (
 RR (sOp (.fieldAddr 25 (.const a) 2) 0) c fun b c=>
 RR (sOp (.load 9 (.const b)) 9) c fun b c=>
 (∃ (d:Value->Value->World->Prop) (e:Value->Value->World->Nat),d (.int .i64 0) b c/\
 ∀ b _ _ _ _ _ _ _ _ _ _ _ _ c _ _ _ _ _ _ _ _ _:Value,∀ f:World,d b c f->
 RR (sOp (.fieldAddr 25 (.const a) 3) 0) f fun g h=>
 RR (sOp (.load 23 (.const g)) 23) h fun g h=>
 RR (aE .len #[23] 3 [false] [g]) h fun g h=>
 RR (av .lss 3 false false b g) h fun g h=>
 CondV g (
 (∃ g:Value->World->Prop,(
 RR (av .eql 3 false true b (.int .i64 0)) h fun a b=>
 CondV a (
 RR (av .add 9 false true c (.string ⟨#[40]⟩)) b fun a b=>
 g a b) (
 RR (av .add 9 false true c (.string ⟨#[44]⟩)) b fun a b=>
 g a b))/\
 ∀ _ _ h _ _ _ _:Value,∀ i:World,g h i->
 RR (sOp (.fieldAddr 25 (.const a) 3) 0) i fun a g=>
 RR (sOp (.load 23 (.const a)) 23) g fun a g=>
 RR (sOp (.indexAddr 23 (.const a) (.const b)) 0) g fun a g=>
 RR (sOp (.load 25 (.const a)) 25) g fun a g=>
 RR (aF (.func (.func 135) #[] #[]) [a]) g fun a g=>
 RR (av .add 9 false false h a) g fun a g=>
 RR (av .add 3 false true b (.int .i64 1)) g fun g h=>
 d g a h/\e g a h<e b c f)) (
 (∃ b:Value->World->Prop,(
 RR (sOp (.fieldAddr 25 (.const a) 3) 0) h fun a d=>
 RR (sOp (.load 23 (.const a)) 23) d fun a d=>
 RR (aE .len #[23] 3 [false] [a]) d fun a d=>
 RR (av .gtr 3 false true a (.int .i64 0)) d fun a d=>
 CondV a (
 RR (av .add 9 false true c (.string ⟨#[41]⟩)) d fun a c=>
 b a c) (
 b c d))/\
 ∀ a _ _ _ _ _ _:Value,∀ c:World,b a c->
 R (.returned a) c))))))
theorem yg {p0:Value} {w:World} {R:Ending->World->Prop} (h:vS p0 w R):Calls Tryz.prog 135 #[p0] w R:=
  aK (.seq none .leaf (.seq none .leaf (.seq none .leaf (.seq none .leaf (.seq none (.seq none .leaf (.one (.loop [4,3] (.seq none .leaf (.seq none (.one (.seq (some [3]) .leaf .leaf)) .leaf))))) (.seq (some [3]) .leaf .leaf)))))) [p0] bp Tryz.func135 (by kernel_rfl) (by kernel_rfl) h


/- loop.example/prologserver/spec.l1Nil : function 136 -/
def xL (p0:Value) (w:World) (R:Ending->World->Prop):Prop:=
 RR (sOp (.box 25 (.const p0)) 0) w fun a b=>
 RR (sOp (.fieldAddr 25 (.const a) 0) 0) b fun b c=>
 RR (sOp (.load 3 (.const b)) 3) c fun b c=>
 RR (av .eql 3 false true b (.int .i64 3)) c fun b c=>
 ((fun d:VW=>ai b true (
 RR (sOp (.fieldAddr 25 (.const a) 2) 0) c fun a c=>
 RR (sOp (.load 9 (.const a)) 9) c fun a c=>
 RR (av .eql 9 false true a (.string ⟨#[91,93]⟩)) c fun a c=>
 RR (sOp (.pick (.const b) (.const a) (.const (.bool false))) 4) c fun a b=>d a b) (
 RR (sOp (.pick (.const b) (.const undef) (.const (.bool false))) 4) c fun a b=>d a b)) fun b c=>
 ai b true (
 RR (sOp (.fieldAddr 25 (.const a) 3) 0) c fun a c=>
 RR (sOp (.load 23 (.const a)) 23) c fun a c=>
 RR (aE .len #[23] 3 [false] [a]) c fun a c=>
 RR (av .eql 3 false true a (.int .i64 0)) c fun a c=>
 RR (sOp (.pick (.const b) (.const a) (.const (.bool false))) 4) c fun a b=>
 R (.returned a) b) (
 RR (sOp (.pick (.const b) (.const undef) (.const (.bool false))) 4) c fun a b=>
 R (.returned a) b))
theorem z1 {p0:Value} {w:World} {R:Ending->World->Prop} (h:xL p0 w R):Calls Tryz.prog 136 #[p0] w R:=
  aK .leaf [p0] bp Tryz.func136 (by kernel_rfl) (by kernel_rfl) h


/- loop.example/prologserver/spec.l2Sole : function 137 -/
def vA (p0:Value) (w:World) (R:Ending->World->Prop):Prop:=
 RR (sOp (.box 25 (.const p0)) 0) w fun a b=>
 RR (sOp (.fieldAddr 25 (.const a) 0) 0) b fun b c=>
 RR (sOp (.load 3 (.const b)) 3) c fun b c=>
 RR (av .eql 3 false true b (.int .i64 3)) c fun b c=>
 ((fun d:VW=>ai b true (
 RR (sOp (.fieldAddr 25 (.const a) 3) 0) c fun a c=>
 RR (sOp (.load 23 (.const a)) 23) c fun a c=>
 RR (aE .len #[23] 3 [false] [a]) c fun a c=>
 RR (av .eql 3 false true a (.int .i64 0)) c fun a c=>
 RR (sOp (.pick (.const b) (.const a) (.const (.bool false))) 4) c fun a b=>d a b) (
 RR (sOp (.pick (.const b) (.const undef) (.const (.bool false))) 4) c fun a b=>d a b)) fun b c=>
 ai b true (
 RR (sOp (.fieldAddr 25 (.const a) 2) 0) c fun a c=>
 RR (sOp (.load 9 (.const a)) 9) c fun a c=>
 RR (aF (.func (.func 80) #[] #[]) [a]) c fun a c=>
 RR (av .gtr 3 false true a (.int .i64 0)) c fun a c=>
 RR (sOp (.pick (.const b) (.const a) (.const (.bool false))) 4) c fun a b=>
 R (.returned a) b) (
 RR (sOp (.pick (.const b) (.const undef) (.const (.bool false))) 4) c fun a b=>
 R (.returned a) b))
theorem za {p0:Value} {w:World} {R:Ending->World->Prop} (h:vA p0 w R):Calls Tryz.prog 137 #[p0] w R:=
  aK .leaf [p0] bp Tryz.func137 (by kernel_rfl) (by kernel_rfl) h


/- loop.example/prologserver/spec.l2Bracket : function 138 -/
def nj (p0 p1:Value) (w:World) (R:Ending->World->Prop):Prop:=
 RR (sOp (.box 25 (.const p0)) 0) w fun a b=>
 (∃ c:Value->World->Prop,(
 RR (sOp (.load 25 (.const a)) 25) b fun b d=>
 RR (aF (.func (.func 130) #[] #[]) [b]) d fun b d=>
 ai b true (
 RR (sOp (.fieldAddr 25 (.const a) 2) 0) d fun a d=>
 RR (sOp (.load 9 (.const a)) 9) d fun a d=>
 RR (aF (.func (.func 80) #[] #[]) [a]) d fun a d=>
 RR (av .gtr 3 false false a p1) d fun a d=>
 RR (sOp (.pick (.const b) (.const a) (.const (.bool false))) 4) d fun a b=>
 c a b) (
 RR (sOp (.pick (.const b) (.const undef) (.const (.bool false))) 4) d fun a b=>
 c a b))/\
 ∀ b _ _ _ _ _ _ _ _:Value,∀ d:World,c b d->
 CondV b (
 RR (sOp (.load 25 (.const a)) 25) d fun a b=>
 RR (aF (.func (.func 122) #[] #[]) [a]) b fun a b=>
 RR (av .add 9 true false (.string ⟨#[40]⟩) a) b fun a b=>
 RR (av .add 9 false true a (.string ⟨#[41]⟩)) b fun a b=>
 R (.returned a) b) (
 RR (sOp (.load 25 (.const a)) 25) d fun a b=>
 RR (aF (.func (.func 122) #[] #[]) [a]) b fun a b=>
 R (.returned a) b))
theorem rY {p0 p1:Value} {w:World} {R:Ending->World->Prop} (h:nj p0 p1 w R):Calls Tryz.prog 138 #[p0,p1] w R:=
  aK (.seq none .leaf (.seq none (.seq (some [13]) .leaf .leaf) .leaf)) [p0,p1] bp Tryz.func138 (by kernel_rfl) (by kernel_rfl) h


/- loop.example/prologserver/spec.l2Plain : function 139 -/
def ta (p0:Value) (w:World) (R:Ending->World->Prop):Prop:=
 RR (aF (.func (.func 127) #[] #[]) [p0,(.int .i64 0)]) w fun a b=>
 ((fun c:VW=>ai a false (
 RR (aF (.func (.func 118) #[] #[]) [p0,(.int .i64 0)]) b fun b d=>
 RR (sOp (.pick (.const a) (.const (.bool true)) (.const b)) 4) d fun a b=>c a b) (
 RR (sOp (.pick (.const a) (.const (.bool true)) (.const undef)) 4) b fun a b=>c a b)) fun a b=>
 ai a false (
 RR (sOp (.index 9 (.const p0) (.const (.int .i64 0))) 5) b fun b c=>
 RR (av .geq 5 false true b (.int .u8 65)) c fun b c=>
 ai b true (
 RR (sOp (.index 9 (.const p0) (.const (.int .i64 0))) 5) c fun c d=>
 RR (av .leq 5 false true c (.int .u8 90)) d fun c d=>
 ((fun e:VW=>ai a false (
 RR (sOp (.pick (.const b) (.const c) (.const (.bool false))) 4) d fun b c=>
 RR (sOp (.pick (.const a) (.const (.bool true)) (.const b)) 4) c fun a b=>e a b) (
 RR (sOp (.pick (.const a) (.const (.bool true)) (.const undef)) 4) d fun a b=>e a b)) fun a b=>
 ((fun c:VW=>ai a false (
 RR (sOp (.index 9 (.const p0) (.const (.int .i64 0))) 5) b fun b d=>
 RR (av .eql 5 false true b (.int .u8 91)) d fun b d=>
 RR (sOp (.pick (.const a) (.const (.bool true)) (.const b)) 4) d fun a b=>c a b) (
 RR (sOp (.pick (.const a) (.const (.bool true)) (.const undef)) 4) b fun a b=>c a b)) fun a b=>
 ai a false (
 RR (sOp (.index 9 (.const p0) (.const (.int .i64 0))) 5) b fun b c=>
 RR (av .eql 5 false true b (.int .u8 40)) c fun b c=>
 RR (sOp (.pick (.const a) (.const (.bool true)) (.const b)) 4) c fun a b=>
 R (.returned a) b) (
 RR (sOp (.pick (.const a) (.const (.bool true)) (.const undef)) 4) b fun a b=>
 R (.returned a) b)))) (
 ((fun d:VW=>ai a false (
 RR (sOp (.pick (.const b) (.const undef) (.const (.bool false))) 4) c fun b c=>
 RR (sOp (.pick (.const a) (.const (.bool true)) (.const b)) 4) c fun a b=>d a b) (
 RR (sOp (.pick (.const a) (.const (.bool true)) (.const undef)) 4) c fun a b=>d a b)) fun a b=>
 ((fun c:VW=>ai a false (
 RR (sOp (.index 9 (.const p0) (.const (.int .i64 0))) 5) b fun b d=>
 RR (av .eql 5 false true b (.int .u8 91)) d fun b d=>
 RR (sOp (.pick (.const a) (.const (.bool true)) (.const b)) 4) d fun a b=>c a b) (
 RR (sOp (.pick (.const a) (.const (.bool true)) (.const undef)) 4) b fun a b=>c a b)) fun a b=>
 ai a false (
 RR (sOp (.index 9 (.const p0) (.const (.int .i64 0))) 5) b fun b c=>
 RR (av .eql 5 false true b (.int .u8 40)) c fun b c=>
 RR (sOp (.pick (.const a) (.const (.bool true)) (.const b)) 4) c fun a b=>
 R (.returned a) b) (
 RR (sOp (.pick (.const a) (.const (.bool true)) (.const undef)) 4) b fun a b=>
 R (.returned a) b))))) (
 ai undef true (
 RR (sOp (.index 9 (.const p0) (.const (.int .i64 0))) 5) b fun b c=>
 RR (av .leq 5 false true b (.int .u8 90)) c fun b c=>
 ((fun d:VW=>ai a false (
 RR (sOp (.pick (.const undef) (.const b) (.const (.bool false))) 4) c fun b c=>
 RR (sOp (.pick (.const a) (.const (.bool true)) (.const b)) 4) c fun a b=>d a b) (
 RR (sOp (.pick (.const a) (.const (.bool true)) (.const undef)) 4) c fun a b=>d a b)) fun a b=>
 ((fun c:VW=>ai a false (
 RR (sOp (.index 9 (.const p0) (.const (.int .i64 0))) 5) b fun b d=>
 RR (av .eql 5 false true b (.int .u8 91)) d fun b d=>
 RR (sOp (.pick (.const a) (.const (.bool true)) (.const b)) 4) d fun a b=>c a b) (
 RR (sOp (.pick (.const a) (.const (.bool true)) (.const undef)) 4) b fun a b=>c a b)) fun a b=>
 ai a false (
 RR (sOp (.index 9 (.const p0) (.const (.int .i64 0))) 5) b fun b c=>
 RR (av .eql 5 false true b (.int .u8 40)) c fun b c=>
 RR (sOp (.pick (.const a) (.const (.bool true)) (.const b)) 4) c fun a b=>
 R (.returned a) b) (
 RR (sOp (.pick (.const a) (.const (.bool true)) (.const undef)) 4) b fun a b=>
 R (.returned a) b)))) (
 ((fun c:VW=>ai a false (
 RR (sOp (.pick (.const undef) (.const undef) (.const (.bool false))) 4) b fun b d=>
 RR (sOp (.pick (.const a) (.const (.bool true)) (.const b)) 4) d fun a b=>c a b) (
 RR (sOp (.pick (.const a) (.const (.bool true)) (.const undef)) 4) b fun a b=>c a b)) fun a b=>
 ((fun c:VW=>ai a false (
 RR (sOp (.index 9 (.const p0) (.const (.int .i64 0))) 5) b fun b d=>
 RR (av .eql 5 false true b (.int .u8 91)) d fun b d=>
 RR (sOp (.pick (.const a) (.const (.bool true)) (.const b)) 4) d fun a b=>c a b) (
 RR (sOp (.pick (.const a) (.const (.bool true)) (.const undef)) 4) b fun a b=>c a b)) fun a b=>
 ai a false (
 RR (sOp (.index 9 (.const p0) (.const (.int .i64 0))) 5) b fun b c=>
 RR (av .eql 5 false true b (.int .u8 40)) c fun b c=>
 RR (sOp (.pick (.const a) (.const (.bool true)) (.const b)) 4) c fun a b=>
 R (.returned a) b) (
 RR (sOp (.pick (.const a) (.const (.bool true)) (.const undef)) 4) b fun a b=>
 R (.returned a) b))))))
theorem wS {p0:Value} {w:World} {R:Ending->World->Prop} (h:ta p0 w R):Calls Tryz.prog 139 #[p0] w R:=
  aK .leaf [p0] bp Tryz.func139 (by kernel_rfl) (by kernel_rfl) h


/- loop.example/prologserver/spec.l1Letter : function 140 -/
def pt (p0:Value) (w:World) (R:Ending->World->Prop):Prop:=
 RR (sOp (.convert 3 5 (.const p0)) 5) w fun a b=>
 RR (av .add 5 true false (.int .u8 65) a) b fun a b=>
 RR (aQ 22 1 [(0,a)]) b fun a b=>
 RR (sOp (.convert 22 9 (.const a)) 9) b fun a b=>
 R (.returned a) b
theorem uO {p0:Value} {w:World} {R:Ending->World->Prop} (h:pt p0 w R):Calls Tryz.prog 140 #[p0] w R:=
  aK .leaf [p0] bp Tryz.func140 (by kernel_rfl) (by kernel_rfl) h


/- loop.example/prologserver/spec.l1Dec : function 141 -/
def zd (p0:Value) (w:World) (R:Ending->World->Prop):Prop:=
 RR (av .lss 3 false true p0 (.int .i64 0)) w fun a b=>
 CondV a (
 RR (sOp (.unOp .neg 3 (.const p0)) 3) b fun a b=>
 RR (aF (.func (.func 143) #[] #[]) [a]) b fun a b=>
 RR (av .add 9 true false (.string ⟨#[45]⟩) a) b fun a b=>
 R (.returned a) b) (
 RR (aF (.func (.func 143) #[] #[]) [p0]) b fun a b=>
 R (.returned a) b)
theorem z8 {p0:Value} {w:World} {R:Ending->World->Prop} (h:zd p0 w R):Calls Tryz.prog 141 #[p0] w R:=
  aK .leaf [p0] bp Tryz.func141 (by kernel_rfl) (by kernel_rfl) h


/- loop.example/prologserver/spec.l18Dec : function 143 -/
def uS (p0:Value) (w:World) (R:Ending->World->Prop):Prop:=
 RR (av .lss 3 false true p0 (.int .i64 (-9223372036854775807))) w fun a b=>
 CondV a (
 R (.returned (.string ⟨#[45,57,50,50,51,51,55,50,48,51,54,56,53,52,55,55,53,56,48,56]⟩)) b) (
 RR (av .lss 3 false true p0 (.int .i64 0)) b fun a b=>
 CondV a (
 RR (sOp (.unOp .neg 3 (.const p0)) 3) b fun a b=>
 RR (aF (.func (.func 143) #[] #[]) [a]) b fun a b=>
 RR (av .add 9 true false (.string ⟨#[45]⟩) a) b fun a b=>
 R (.returned a) b) (
 (∃ (a:Value->Value->World->Prop) (c:Value->Value->World->Nat),a p0 (.string ⟨#[]⟩) b/\
 ∀ b _ _ d _ _ _ _ _ _ _ _ _ _:Value,∀ e:World,a b d e->
 RR (av .gtr 3 false true b (.int .i64 9)) e fun f g=>
 CondV f (
 RR (av .rem 3 false true b (.int .i64 10)) g fun f g=>
 RR (av .add 3 true false (.int .i64 48) f) g fun f g=>
 RR (sOp (.convert 3 5 (.const f)) 5) g fun f g=>
 RR (aQ 22 1 [(0,f)]) g fun f g=>
 RR (sOp (.convert 22 9 (.const f)) 9) g fun f g=>
 RR (av .add 9 false false f d) g fun f g=>
 RR (av .quo 3 false true b (.int .i64 10)) g fun g h=>
 a g f h/\c g f h<c b d e) (
 RR (av .add 3 true false (.int .i64 48) b) g fun a b=>
 RR (sOp (.convert 3 5 (.const a)) 5) b fun a b=>
 RR (aQ 22 1 [(0,a)]) b fun a b=>
 RR (sOp (.convert 22 9 (.const a)) 9) b fun a b=>
 RR (av .add 9 false false a d) b fun a b=>
 R (.returned a) b))))
theorem zH {p0:Value} {w:World} {R:Ending->World->Prop} (h:uS p0 w R):Calls Tryz.prog 143 #[p0] w R:=
  aK (.seq none .leaf (.seq none .leaf (.seq none .leaf (.seq none .leaf (.seq none (.one (.loop [0,3] .leaf)) .leaf))))) [p0] bp Tryz.func143 (by kernel_rfl) (by kernel_rfl) h

end Go.Proofs.YtnmnddpdikghhaaGreat
