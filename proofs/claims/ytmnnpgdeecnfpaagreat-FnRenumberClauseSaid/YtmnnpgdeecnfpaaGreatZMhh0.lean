/- Made by program: the functions in a shallow form; each form gives Calls. -/
import Derived.Test.YtmnnpgdeecnfpaaGreatZMhS
import Derived.Test.YtmnnpgdeecnfpaaGreatProg
import Derived.KernelRfl
set_option maxRecDepth 100000
namespace Go.Proofs.YtmnnpgdeecnfpaaGreat
open Go
theorem bl:Tryz.prog.follows .mixedOrders=true:=by kernel_rfl
abbrev RR:=Run Tryz.prog
abbrev VW:=Value->World->Prop
/- loop.example/prologserver/laws.FnRenumberClause : function 8 -/
def fU (p0:Value) (w:World) (R:Ending->World->Prop):Prop:=
 RR (aA .len #[22] 3 [false] [p0]) w fun a b=>
 RR (au .gtr 3 false true a (.int .i64 1048576)) b fun a b=>
 CondV a (
 R (.returned (.bool true)) b) (
 RR (ay (.func (.func 33) #[] #[]) [p0]) b fun a b=>
 RR (sOp (.alloc 34) 0) b fun b c=>
 RR (sOp (.store 34 (.const b) (.const a)) 0) c fun _ a=>
 RR (sOp (.load 34 (.const b)) 34) a fun a c=>
 RR (ay (.func (.func 34) #[] #[]) [a]) c fun a c=>
 RR (sOp (.extract (.const a) 0) 34) c fun c d=>
 RR (sOp (.extract (.const a) 1) 4) d fun a d=>
 RR (sOp (.alloc 34) 0) d fun d e=>
 RR (sOp (.store 34 (.const d) (.const c)) 0) e fun _ c=>
 RR (sOp (.load 34 (.const b)) 34) c fun c e=>
 RR (ay (.func (.func 35) #[] #[]) [c]) e fun c e=>
 RR (sOp (.extract (.const c) 0) 34) e fun e f=>
 RR (sOp (.extract (.const c) 1) 4) f fun c f=>
 RR (sOp (.alloc 34) 0) f fun f g=>
 RR (sOp (.store 34 (.const f) (.const e)) 0) g fun _ e=>
 (∃ g:Value->World->Prop,(
 RR (au .neq 4 false false a c) e fun b c=>
 ((fun a:VW=>ah b false (
 RR (sOp (.load 34 (.const d)) 34) c fun c d=>
 RR (sOp (.load 34 (.const f)) 34) d fun d e=>
 RR (ay (.func (.func 36) #[] #[]) [c,d]) e fun c d=>
 RR (sOp (.unOp .not 4 (.const c)) 4) d fun c d=>
 RR (sOp (.pick (.const b) (.const (.bool true)) (.const c)) 4) d fun b c=>a b c) (
 RR (sOp (.pick (.const b) (.const (.bool true)) (.const undef)) 4) c fun b c=>a b c)) fun b c=>
 ah b false (
 RR (sOp (.unOp .not 4 (.const a)) 4) c fun a c=>
 RR (sOp (.pick (.const b) (.const (.bool true)) (.const a)) 4) c fun a b=>
 g a b) (
 RR (sOp (.pick (.const b) (.const (.bool true)) (.const undef)) 4) c fun a b=>
 g a b)))/\
 ∀ e _ _ _ _ _ _ _ _ _ _ _ _:Value,∀ h:World,g e h->
 CondV e (
 RR (au .eql 4 false false a c) h fun a b=>
 ah a true (
 RR (sOp (.load 34 (.const d)) 34) b fun b c=>
 RR (sOp (.load 34 (.const f)) 34) c fun c d=>
 RR (ay (.func (.func 36) #[] #[]) [b,c]) d fun b c=>
 RR (sOp (.pick (.const a) (.const b) (.const (.bool false))) 4) c fun a b=>
 R (.returned a) b) (
 RR (sOp (.pick (.const a) (.const undef) (.const (.bool false))) 4) b fun a b=>
 R (.returned a) b)) (
 RR (sOp (.load 34 (.const d)) 34) h fun a c=>
 RR (ay (.func (.func 34) #[] #[]) [a]) c fun a c=>
 RR (sOp (.extract (.const a) 0) 34) c fun c e=>
 RR (sOp (.extract (.const a) 1) 4) e fun a e=>
 RR (sOp (.alloc 34) 0) e fun e f=>
 RR (sOp (.store 34 (.const e) (.const c)) 0) f fun _ c=>
 RR (sOp (.load 34 (.const d)) 34) c fun c f=>
 RR (ay (.func (.func 22) #[] #[]) [c]) f fun c f=>
 ((fun b:VW=>ah c true (
 RR (sOp (.pick (.const c) (.const a) (.const (.bool false))) 4) f fun a c=>b a c) (
 RR (sOp (.pick (.const c) (.const undef) (.const (.bool false))) 4) f fun a c=>b a c)) fun a c=>
 ((fun b:VW=>ah a true (
 RR (sOp (.load 34 (.const e)) 34) c fun c e=>
 RR (sOp (.load 34 (.const d)) 34) e fun d e=>
 RR (ay (.func (.func 36) #[] #[]) [c,d]) e fun c d=>
 RR (sOp (.pick (.const a) (.const c) (.const (.bool false))) 4) d fun a c=>b a c) (
 RR (sOp (.pick (.const a) (.const undef) (.const (.bool false))) 4) c fun a c=>b a c)) fun a c=>
 ((fun e:VW=>ah a true (
 RR (sOp (.fieldAddr 34 (.const d) 0) 0) c fun c d=>
 RR (sOp (.load 32 (.const c)) 32) d fun c d=>
 RR (sOp (.fieldAddr 34 (.const b) 0) 0) d fun b d=>
 RR (sOp (.load 32 (.const b)) 32) d fun b d=>
 RR (ay (.func (.func 37) #[] #[]) [c,b]) d fun b c=>
 RR (sOp (.pick (.const a) (.const b) (.const (.bool false))) 4) c fun a b=>e a b) (
 RR (sOp (.pick (.const a) (.const undef) (.const (.bool false))) 4) c fun a b=>e a b)) fun a c=>
 ah a true (
 RR (sOp (.fieldAddr 34 (.const d) 1) 0) c fun c d=>
 RR (sOp (.load 30 (.const c)) 30) d fun c d=>
 RR (aA .len #[30] 3 [false] [c]) d fun c d=>
 RR (sOp (.fieldAddr 34 (.const b) 1) 0) d fun b d=>
 RR (sOp (.load 30 (.const b)) 30) d fun b d=>
 RR (aA .len #[30] 3 [false] [b]) d fun b d=>
 RR (au .eql 3 false false c b) d fun b c=>
 RR (sOp (.pick (.const a) (.const b) (.const (.bool false))) 4) c fun a b=>
 R (.returned a) b) (
 RR (sOp (.pick (.const a) (.const undef) (.const (.bool false))) 4) c fun a b=>
 R (.returned a) b)))))))
theorem jk {p0:Value} {w:World} {R:Ending->World->Prop} (h:fU p0 w R):Calls Tryz.prog 8 #[p0] w R:=
  aL (.seq none .leaf (.seq none .leaf (.seq none .leaf (.seq none .leaf (.seq none .leaf (.seq none (.seq (some [37]) .leaf .leaf) .leaf)))))) [p0] bl Tryz.func8 (by kernel_rfl) (by kernel_rfl) h


/- loop.example/prologserver/impl.ClauseValid : function 22 -/
def jE (p0:Value) (w:World) (R:Ending->World->Prop):Prop:=
 RR (sOp (.box 34 (.const p0)) 0) w fun a b=>
 RR (sOp (.fieldAddr 34 (.const a) 0) 0) b fun b c=>
 RR (sOp (.load 32 (.const b)) 32) c fun b c=>
 RR (ay (.func (.func 66) #[] #[]) [b]) c fun b c=>
 ((fun d:VW=>ah b true (
 RR (sOp (.fieldAddr 34 (.const a) 0) 0) c fun a c=>
 RR (sOp (.load 32 (.const a)) 32) c fun a c=>
 RR (ay (.func (.func 67) #[] #[]) [a]) c fun a c=>
 RR (sOp (.pick (.const b) (.const a) (.const (.bool false))) 4) c fun a b=>d a b) (
 RR (sOp (.pick (.const b) (.const undef) (.const (.bool false))) 4) c fun a b=>d a b)) fun b c=>
 ah b true (
 RR (sOp (.fieldAddr 34 (.const a) 1) 0) c fun a c=>
 RR (sOp (.load 30 (.const a)) 30) c fun a c=>
 RR (ay (.func (.func 68) #[] #[]) [a]) c fun a c=>
 RR (sOp (.pick (.const b) (.const a) (.const (.bool false))) 4) c fun a b=>
 R (.returned a) b) (
 RR (sOp (.pick (.const b) (.const undef) (.const (.bool false))) 4) c fun a b=>
 R (.returned a) b))
theorem ma {p0:Value} {w:World} {R:Ending->World->Prop} (h:jE p0 w R):Calls Tryz.prog 22 #[p0] w R:=
  aL .leaf [p0] bl Tryz.func22 (by kernel_rfl) (by kernel_rfl) h


/- loop.example/prologserver/spec.DrawRenumberClause : function 33 -/
def fx (p0:Value) (w:World) (R:Ending->World->Prop):Prop:=
 RR (sOp (.alloc 34) 0) w fun a b=>
 RR (ay (.func (.func 50) #[] #[]) [p0]) b fun b c=>
 RR (ay (.func (.func 59) #[] #[]) [b]) c fun c d=>
 RR (sOp (.alloc 34) 0) d fun d e=>
 RR (sOp (.store 34 (.const d) (.const c)) 0) e fun _ c=>
 RR (ay (.func (.func 61) #[] #[]) [b,(.int .i64 3)]) c fun c e=>
 RR (sOp (.fieldAddr 34 (.const d) 0) 0) e fun e f=>
 RR (sOp (.load 32 (.const e)) 32) f fun e f=>
 RR (ay (.func (.func 80) #[] #[]) [e,c]) f fun e f=>
 RR (cg 34 [(0,e)]) f fun e f=>
 RR (sOp (.alloc 34) 0) f fun f g=>
 RR (sOp (.store 34 (.const f) (.const e)) 0) g fun _ e=>
 (∃ (g:Value->World->Prop) (h:Value->World->Nat),g (.int .i64 0) e/\
 ∀ e _ _ i j k l m n o p q r s t _ _ _ _ _:Value,∀ u:World,g e u->
 RR (sOp (.fieldAddr 34 (.const d) 1) 0) u fun v x=>
 RR (sOp (.load 30 (.const v)) 30) x fun v x=>
 RR (aA .len #[30] 3 [false] [v]) x fun v x=>
 RR (au .lss 3 false false e v) x fun v x=>
 CondV v (
 (∃ a:(Nat->Bool)->Value->Value->Value->Value->Value->Value->Value->Value->Value->Value->Value->Value->World->Prop,a (fun _=>false) i j k l m n o p q r s t { x with drawn:=x.drawn+1 }/\(
 (∀ b:Nat->Bool,b 0=false->∀ c d e g h i j k l m n o p,a b c d e g h i j k l m n o p->
 RR (sOp (.fieldAddr 34 (.const f) 1) 0) p fun f o=>
 a (av b 0) c d e g h i j k l m n f o)/\
 (∀ b:Nat->Bool,b 1=false->b 0=true->∀ c d e f g h i j k l m n o,a b c d e f g h i j k l m n o->
 RR (sOp (.load 30 (.const n)) 30) o fun m o=>
 a (av b 1) c d e f g h i j k l m n o)/\
 (∀ b:Nat->Bool,b 2=false->∀ c e f g h i j k l m n o p,a b c e f g h i j k l m n o p->
 RR (sOp (.fieldAddr 34 (.const d) 1) 0) p fun d m=>
 a (av b 2) c e f g h i j k l d n o m)/\
 (∀ b:Nat->Bool,b 3=false->b 2=true->∀ c d e f g h i j k l m n o,a b c d e f g h i j k l m n o->
 RR (sOp (.load 30 (.const l)) 30) o fun k o=>
 a (av b 3) c d e f g h i j k l m n o)/\
 (∀ b:Nat->Bool,b 4=false->∀ c d f g h i j k l m n o p,a b c d f g h i j k l m n o p->
 a (av b 4) c d f g h i j e l m n o p)/\
 (∀ b:Nat->Bool,b 5=false->b 3=true->b 4=true->∀ c d e f g h i j k l m n o,a b c d e f g h i j k l m n o->
 RR (sOp (.indexAddr 30 (.const k) (.const j)) 0) o fun i o=>
 a (av b 5) c d e f g h i j k l m n o)/\
 (∀ b:Nat->Bool,b 6=false->b 5=true->∀ c d e f g h i j k l m n o,a b c d e f g h i j k l m n o->
 RR (sOp (.load 32 (.const i)) 32) o fun h o=>
 a (av b 6) c d e f g h i j k l m n o)/\
 (∀ b:Nat->Bool,b 7=false->∀ d e f g h i j k l m n o p,a b d e f g h i j k l m n o p->
 a (av b 7) d e f g c i j k l m n o p)/\
 (∀ b:Nat->Bool,b 8=false->b 6=true->b 7=true->∀ c d e f g h i j k l m n o,a b c d e f g h i j k l m n o->
 RR (ay (.func (.func 80) #[] #[]) [h,g]) o fun f o=>
 a (av b 8) c d e f g h i j k l m n o)/\
 (∀ b:Nat->Bool,b 9=false->b 8=true->∀ c d e f g h i j k l m n o,a b c d e f g h i j k l m n o->
 RR (aR 30 1 [(0,f)]) o fun e o=>
 a (av b 9) c d e f g h i j k l m n o)/\
 (∀ b:Nat->Bool,b 10=false->b 1=true->b 9=true->b 8=true->∀ c d e f g h i j k l m n o,a b c d e f g h i j k l m n o->
 RR (aA .append #[30,30] 30 [false,false] [m,e]) o fun d o=>
 a (av b 10) c d e f g h i j k l m n o)/\
 (∀ b:Nat->Bool,b 11=false->b 0=true->b 1=true->b 2=true->b 3=true->b 4=true->b 5=true->b 6=true->b 7=true->b 8=true->b 9=true->b 10=true->∀ c d e g h i j k l m n o p,a b c d e g h i j k l m n o p->
 RR (sOp (.fieldAddr 34 (.const f) 1) 0) p fun c f=>
 a (av b 11) c d e g h i j k l m n o f)/\
 (∀ b:Nat->Bool,b 12=false->b 11=true->b 10=true->b 10=true->b 0=true->b 1=true->b 2=true->b 3=true->b 4=true->b 5=true->b 6=true->b 7=true->b 8=true->b 9=true->b 10=true->∀ c d e f g h i j k l m n o,a b c d e f g h i j k l m n o->
 RR (sOp (.store 30 (.const c) (.const d)) 0) o fun _ o=>
 a (av b 12) c d e f g h i j k l m n o)/\
 True)/\
 ∀ b:Nat->Bool,b 12=true->b 11=true->b 10=true->b 9=true->b 8=true->b 7=true->b 6=true->b 5=true->b 4=true->b 3=true->b 2=true->b 1=true->b 0=true->∀ c d f i j k l m n o p q r,a b c d f i j k l m n o p q r->
 RR (au .add 3 false true e (.int .i64 1)) r fun a b=>
 g a b/\h a b<h e u)) (
 RR (sOp (.load 34 (.const f)) 34) x fun c d=>
 RR (ay (.func (.func 62) #[] #[]) [b,c]) d fun b c=>
 RR (sOp (.store 34 (.const a) (.const b)) 0) c fun _ b=>
 (ba Tryz.prog 34 a b fun a=>R (.returned a) b)))
theorem iO {p0:Value} {w:World} {R:Ending->World->Prop} (h:fx p0 w R):Calls Tryz.prog 33 #[p0] w R:=
  aL (.seq none .leaf (.seq none .leaf (.seq none .leaf (.seq none .leaf (.seq none .leaf (.seq none (.seq none .leaf (.one (.loop [7] .leaf))) .leaf)))))) [p0] bl Tryz.func33 (by kernel_rfl) (by kernel_rfl) h


/- loop.example/prologserver/impl.RenumberClause : function 34 -/
def gK (p0:Value) (w:World) (R:Ending->World->Prop):Prop:=
 RR (sOp (.box 34 (.const p0)) 0) w fun a b=>
 RR (sOp (.alloc 34) 0) b fun b c=>
 RR (sOp (.load 34 (.const a)) 34) c fun c d=>
 RR (ay (.func (.func 22) #[] #[]) [c]) d fun c d=>
 RR (sOp (.unOp .not 4 (.const c)) 4) d fun c d=>
 CondV c (
 RR (cg 34 []) d fun a c=>
 RR (sOp (.store 34 (.const b) (.const a)) 0) c fun _ a=>
 (ba Tryz.prog 34 b a fun b=>R (.returned (.tuple #[b,(.bool false)])) a)) (
 RR (sOp (.load 34 (.const a)) 34) d fun a c=>
 RR (ay (.func (.func 82) #[] #[]) [a]) c fun a c=>
 RR (ay (.func (.func 81) #[] #[]) [a]) c fun a c=>
 RR (sOp (.store 34 (.const b) (.const a)) 0) c fun _ a=>
 (ba Tryz.prog 34 b a fun b=>R (.returned (.tuple #[b,(.bool true)])) a))
theorem j1 {p0:Value} {w:World} {R:Ending->World->Prop} (h:gK p0 w R):Calls Tryz.prog 34 #[p0] w R:=
  aL .leaf [p0] bl Tryz.func34 (by kernel_rfl) (by kernel_rfl) h


/- loop.example/prologserver/spec.RenumberClause : function 35 -/
def gL (p0:Value) (w:World) (R:Ending->World->Prop):Prop:=
 RR (sOp (.box 34 (.const p0)) 0) w fun a b=>
 RR (sOp (.alloc 34) 0) b fun b c=>
 RR (sOp (.load 34 (.const a)) 34) c fun c d=>
 RR (ay (.func (.func 64) #[] #[]) [c]) d fun c d=>
 RR (sOp (.unOp .not 4 (.const c)) 4) d fun c d=>
 CondV c (
 RR (cg 34 []) d fun a c=>
 RR (sOp (.store 34 (.const b) (.const a)) 0) c fun _ a=>
 (ba Tryz.prog 34 b a fun b=>R (.returned (.tuple #[b,(.bool false)])) a)) (
 RR (sOp (.load 34 (.const a)) 34) d fun a c=>
 RR (ay (.func (.func 83) #[] #[]) [a]) c fun a c=>
 RR (sOp (.store 34 (.const b) (.const a)) 0) c fun _ a=>
 (ba Tryz.prog 34 b a fun b=>R (.returned (.tuple #[b,(.bool true)])) a))
theorem j4 {p0:Value} {w:World} {R:Ending->World->Prop} (h:gL p0 w R):Calls Tryz.prog 35 #[p0] w R:=
  aL .leaf [p0] bl Tryz.func35 (by kernel_rfl) (by kernel_rfl) h


/- loop.example/prologserver/impl.ClauseSame : function 36 -/
def kj (p0 p1:Value) (w:World) (R:Ending->World->Prop):Prop:=
 RR (sOp (.box 34 (.const p0)) 0) w fun a b=>
 RR (sOp (.box 34 (.const p1)) 0) b fun b c=>
 RR (sOp (.fieldAddr 34 (.const a) 0) 0) c fun c d=>
 RR (sOp (.load 32 (.const c)) 32) d fun c d=>
 RR (sOp (.fieldAddr 34 (.const b) 0) 0) d fun d e=>
 RR (sOp (.load 32 (.const d)) 32) e fun d e=>
 RR (ay (.func (.func 84) #[] #[]) [c,d]) e fun c d=>
 ah c true (
 RR (sOp (.fieldAddr 34 (.const a) 1) 0) d fun a d=>
 RR (sOp (.load 30 (.const a)) 30) d fun a d=>
 RR (sOp (.fieldAddr 34 (.const b) 1) 0) d fun b d=>
 RR (sOp (.load 30 (.const b)) 30) d fun b d=>
 RR (ay (.func (.func 85) #[] #[]) [a,b,(.func (.func 84) #[] #[])]) d fun a b=>
 RR (sOp (.pick (.const c) (.const a) (.const (.bool false))) 4) b fun a b=>
 R (.returned a) b) (
 RR (sOp (.pick (.const c) (.const undef) (.const (.bool false))) 4) d fun a b=>
 R (.returned a) b)
theorem m4 {p0 p1:Value} {w:World} {R:Ending->World->Prop} (h:kj p0 p1 w R):Calls Tryz.prog 36 #[p0,p1] w R:=
  aL .leaf [p0,p1] bl Tryz.func36 (by kernel_rfl) (by kernel_rfl) h


/- loop.example/prologserver/impl.VariantTerms : function 37 -/
def jb (p0 p1:Value) (w:World) (R:Ending->World->Prop):Prop:=
 RR (sOp (.box 32 (.const p0)) 0) w fun a b=>
 RR (sOp (.box 32 (.const p1)) 0) b fun b c=>
 (∃ d:(Nat->Bool)->Value->Value->Value->Value->Value->Value->Value->Value->Value->Value->Value->Value->Value->Value->Value->Value->Value->Value->Value->Value->World->Prop,d (fun _=>false) (.bool false) undef undef undef undef undef undef undef undef undef undef undef undef undef undef undef undef undef undef undef { c with drawn:=c.drawn+1 }/\(
 (∀ b:Nat->Bool,b 0=false->∀ c e f g h i j k l m n o p q r s t u v x y,d b c e f g h i j k l m n o p q r s t u v x y->
 RR (sOp (.load 32 (.const a)) 32) y fun a x=>
 d (av b 0) c e f g h i j k l m n o p q r s t u v a x)/\
 (∀ a:Nat->Bool,a 1=false->a 0=true->∀ b c e f g h i j k l m n o p q r s t u v x,d a b c e f g h i j k l m n o p q r s t u v x->
 RR (ay (.func (.func 66) #[] #[]) [v]) x fun u x=>
 d (av a 1) b c e f g h i j k l m n o p q r s t u v x)/\
 (∀ a:Nat->Bool,a 2=false->a 1=true->a 1=true->∀ b c e f g h i j k l m n o p q r s t u v x,d a b c e f g h i j k l m n o p q r s t u v x->
 d (av a 2) b c e f g h i j k l m n o p q r s u u v x)/\
 (∀ a:Nat->Bool,a 3=false->a 2=true->∀ c e f g h i j k l m n o p q r s t u v x y,d a c e f g h i j k l m n o p q r s t u v x y->
 ah u true (RR (sOp (.load 32 (.const b)) 32) y fun b t=>
 d (av a 3) c e f g h i j k l m n o p q r s b u v x t) (d (av a 3) c e f g h i j k l m n o p q r s undef u v x y))/\
 (∀ a:Nat->Bool,a 4=false->a 3=true->a 2=true->a 2=true->∀ b c e f g h i j k l m n o p q r s t u v x,d a b c e f g h i j k l m n o p q r s t u v x->
 ah t true (RR (ay (.func (.func 66) #[] #[]) [s]) x fun r x=>
 d (av a 4) b c e f g h i j k l m n o p q r s t u v x) (d (av a 4) b c e f g h i j k l m n o p q undef s t u v x))/\
 (∀ a:Nat->Bool,a 5=false->a 2=true->a 4=true->∀ b c e f g h i j k l m n o p q r s t u v x,d a b c e f g h i j k l m n o p q r s t u v x->
 RR (sOp (.pick (.const t) (.const r) (.const (.bool false))) 4) x fun q x=>
 d (av a 5) b c e f g h i j k l m n o p q r s t u v x)/\
 (∀ a:Nat->Bool,a 6=false->a 5=true->a 4=true->∀ b c e f g h i j k l m n o p q r s t u v x,d a b c e f g h i j k l m n o p q r s t u v x->
 d (av a 6) b c e f g h i j k l m n o q q r s t u v x)/\
 (∀ b:Nat->Bool,b 7=false->b 6=true->∀ c e f g h i j k l m n o p q r s t u v x y,d b c e f g h i j k l m n o p q r s t u v x y->
 ah q true (RR (sOp (.load 32 (.const a)) 32) y fun a p=>
 d (av b 7) c e f g h i j k l m n o a q r s t u v x p) (d (av b 7) c e f g h i j k l m n o undef q r s t u v x y))/\
 (∀ a:Nat->Bool,a 8=false->a 7=true->a 6=true->∀ b c e f g h i j k l m n o p q r s t u v x,d a b c e f g h i j k l m n o p q r s t u v x->
 ah p true (RR (aR 30 1 [(0,o)]) x fun n x=>
 d (av a 8) b c e f g h i j k l m n o p q r s t u v x) (d (av a 8) b c e f g h i j k l m undef o p q r s t u v x))/\
 (∀ a:Nat->Bool,a 9=false->a 8=true->a 6=true->a 6=true->∀ b c e f g h i j k l m n o p q r s t u v x,d a b c e f g h i j k l m n o p q r s t u v x->
 ah p true (RR (ay (.func (.func 86) #[] #[]) [n]) x fun m x=>
 d (av a 9) b c e f g h i j k l m n o p q r s t u v x) (d (av a 9) b c e f g h i j k l undef n o p q r s t u v x))/\
 (∀ a:Nat->Bool,a 10=false->a 9=true->a 6=true->∀ b c e f g h i j k l m n o p q r s t u v x,d a b c e f g h i j k l m n o p q r s t u v x->
 ah p true (RR (sOp (.indexAddr 30 (.const m) (.const (.int .i64 0))) 0) x fun l x=>
 d (av a 10) b c e f g h i j k l m n o p q r s t u v x) (d (av a 10) b c e f g h i j k undef m n o p q r s t u v x))/\
 (∀ a:Nat->Bool,a 11=false->a 10=true->a 6=true->∀ b c e f g h i j k l m n o p q r s t u v x,d a b c e f g h i j k l m n o p q r s t u v x->
 ah p true (RR (sOp (.load 32 (.const l)) 32) x fun k x=>
 d (av a 11) b c e f g h i j k l m n o p q r s t u v x) (d (av a 11) b c e f g h i j undef l m n o p q r s t u v x))/\
 (∀ a:Nat->Bool,a 12=false->a 6=true->∀ c e f g h i j k l m n o p q r s t u v x y,d a c e f g h i j k l m n o p q r s t u v x y->
 ah q true (RR (sOp (.load 32 (.const b)) 32) y fun b k=>
 d (av a 12) c e f g h i j b l m n o p q r s t u v x k) (d (av a 12) c e f g h i j undef l m n o p q r s t u v x y))/\
 (∀ a:Nat->Bool,a 13=false->a 12=true->a 6=true->∀ b c e f g h i j k l m n o p q r s t u v x,d a b c e f g h i j k l m n o p q r s t u v x->
 ah p true (RR (aR 30 1 [(0,j)]) x fun i x=>
 d (av a 13) b c e f g h i j k l m n o p q r s t u v x) (d (av a 13) b c e f g h undef j k l m n o p q r s t u v x))/\
 (∀ a:Nat->Bool,a 14=false->a 13=true->a 9=true->a 6=true->∀ b c e f g h i j k l m n o p q r s t u v x,d a b c e f g h i j k l m n o p q r s t u v x->
 ah p true (RR (ay (.func (.func 86) #[] #[]) [i]) x fun h x=>
 d (av a 14) b c e f g h i j k l m n o p q r s t u v x) (d (av a 14) b c e f g undef i j k l m n o p q r s t u v x))/\
 (∀ a:Nat->Bool,a 15=false->a 14=true->a 6=true->∀ b c e f g h i j k l m n o p q r s t u v x,d a b c e f g h i j k l m n o p q r s t u v x->
 ah p true (RR (sOp (.indexAddr 30 (.const h) (.const (.int .i64 0))) 0) x fun g x=>
 d (av a 15) b c e f g h i j k l m n o p q r s t u v x) (d (av a 15) b c e f undef h i j k l m n o p q r s t u v x))/\
 (∀ a:Nat->Bool,a 16=false->a 15=true->a 6=true->∀ b c e f g h i j k l m n o p q r s t u v x,d a b c e f g h i j k l m n o p q r s t u v x->
 ah p true (RR (sOp (.load 32 (.const g)) 32) x fun f x=>
 d (av a 16) b c e f g h i j k l m n o p q r s t u v x) (d (av a 16) b c e undef g h i j k l m n o p q r s t u v x))/\
 (∀ a:Nat->Bool,a 17=false->a 11=true->a 16=true->a 14=true->a 6=true->∀ b c e f g h i j k l m n o p q r s t u v x,d a b c e f g h i j k l m n o p q r s t u v x->
 ah p true (RR (ay (.func (.func 84) #[] #[]) [k,f]) x fun e x=>
 d (av a 17) b c e f g h i j k l m n o p q r s t u v x) (d (av a 17) b c undef f g h i j k l m n o p q r s t u v x))/\
 (∀ a:Nat->Bool,a 18=false->a 6=true->a 17=true->∀ b c e f g h i j k l m n o p q r s t u v x,d a b c e f g h i j k l m n o p q r s t u v x->
 RR (sOp (.pick (.const p) (.const e) (.const (.bool false))) 4) x fun c x=>
 d (av a 18) b c e f g h i j k l m n o p q r s t u v x)/\
 (∀ a:Nat->Bool,a 19=false->a 18=true->a 17=true->a 0=true->a 1=true->a 2=true->a 3=true->a 4=true->a 5=true->a 6=true->a 7=true->a 8=true->a 9=true->a 10=true->a 11=true->a 12=true->a 13=true->a 14=true->a 15=true->a 16=true->a 17=true->a 18=true->∀ b c e f g h i j k l m n o p q r s t u v x,d a b c e f g h i j k l m n o p q r s t u v x->
 d (av a 19) c c e f g h i j k l m n o p q r s t u v x)/\
 True)/\
 ∀ a:Nat->Bool,a 19=true->a 18=true->a 17=true->a 16=true->a 15=true->a 14=true->a 13=true->a 12=true->a 11=true->a 10=true->a 9=true->a 8=true->a 7=true->a 6=true->a 5=true->a 4=true->a 3=true->a 2=true->a 1=true->a 0=true->∀ b c e f g h i j k l m n o p q r s t u v x,d a b c e f g h i j k l m n o p q r s t u v x->
 R (.returned b) x)
theorem ll {p0 p1:Value} {w:World} {R:Ending->World->Prop} (h:jb p0 p1 w R):Calls Tryz.prog 37 #[p0,p1] w R:=
  aL .leaf [p0,p1] bl Tryz.func37 (by kernel_rfl) (by kernel_rfl) h


/- loop.example/prologserver/spec.l18Open : function 50 -/
def oI (p0:Value) (w:World) (R:Ending->World->Prop):Prop:=
 (∃ a:Value->World->Prop,(
 RR (aA .len #[22] 3 [false] [p0]) w fun b c=>
 RR (au .gtr 3 false true b (.int .i64 2000)) c fun b c=>
 CondV b (
 RR (sOp (.slice 22 (.const p0) none (some (.const (.int .i64 2000))) none) 22) c fun b c=>
 a b c) (
 a p0 c))/\
 ∀ b _ _ _ _ _:Value,∀ c:World,a b c->
 RR (cg 102 [(0,b)]) c fun a b=>
 RR (sOp (.box 102 (.const a)) 66) b fun a b=>
 R (.returned a) b)
theorem rZ {p0:Value} {w:World} {R:Ending->World->Prop} (h:oI p0 w R):Calls Tryz.prog 50 #[p0] w R:=
  aL (.seq none .leaf (.seq (some [0]) .leaf .leaf)) [p0] bl Tryz.func50 (by kernel_rfl) (by kernel_rfl) h


/- loop.example/prologserver/spec.l4Clause : function 59 -/
def mK (p0:Value) (w:World) (R:Ending->World->Prop):Prop:=
 RR (sOp (.alloc 34) 0) w fun a b=>
 RR (ay (.func (.func 91) #[] #[]) [p0]) b fun b c=>
 RR (ay (.func (.func 61) #[] #[]) [p0,(.int .i64 4)]) c fun c d=>
 RR (au .gtr 3 false true c (.int .i64 0)) d fun c d=>
 CondV c (
 RR (aA .len #[23] 3 [false] [b]) d fun c d=>
 RR (ay (.func (.func 61) #[] #[]) [p0,c]) d fun c d=>
 RR (sOp (.indexAddr 23 (.const b) (.const c)) 0) d fun b c=>
 RR (sOp (.load 34 (.const b)) 34) c fun b c=>
 RR (sOp (.store 34 (.const a) (.const b)) 0) c fun _ b=>
 (ba Tryz.prog 34 a b fun a=>R (.returned a) b)) (
 RR (aR 82 3 [(0,(.string ⟨#[112]⟩)),(1,(.string ⟨#[113]⟩)),(2,(.string ⟨#[102,111,111]⟩))]) d fun b c=>
 RR (ay (.func (.func 109) #[] #[]) [p0,b]) c fun b c=>
 RR (ay (.func (.func 110) #[] #[]) [p0,(.int .i64 2)]) c fun c d=>
 RR (aR 30 1 [(0,c)]) d fun c d=>
 RR (ay (.func (.func 106) #[] #[]) [b,c]) d fun b c=>
 RR (cg 34 [(0,b)]) c fun b c=>
 RR (sOp (.alloc 34) 0) c fun c d=>
 RR (sOp (.store 34 (.const c) (.const b)) 0) d fun _ b=>
 RR (ay (.func (.func 61) #[] #[]) [p0,(.int .i64 3)]) b fun b d=>
 (∃ (e:Value->World->Prop) (f:Value->World->Nat),e b d/\
 ∀ b _ _ d g h i j k l m n o p q r s _ _:Value,∀ t:World,e b t->
 RR (au .gtr 3 false true b (.int .i64 0)) t fun u v=>
 CondV u (
 (∃ a:(Nat->Bool)->Value->Value->Value->Value->Value->Value->Value->Value->Value->Value->Value->Value->Value->Value->World->Prop,a (fun _=>false) d g h i j k l m n o p q r s { v with drawn:=v.drawn+1 }/\(
 (∀ b:Nat->Bool,b 0=false->∀ d e f g h i j k l m n o p q r,a b d e f g h i j k l m n o p q r->
 RR (sOp (.fieldAddr 34 (.const c) 1) 0) r fun c q=>
 a (av b 0) d e f g h i j k l m n o p c q)/\
 (∀ b:Nat->Bool,b 1=false->b 0=true->∀ c d e f g h i j k l m n o p q,a b c d e f g h i j k l m n o p q->
 RR (sOp (.load 30 (.const p)) 30) q fun o q=>
 a (av b 1) c d e f g h i j k l m n o p q)/\
 (∀ b:Nat->Bool,b 2=false->∀ c d e f g h i j k l m n o p q,a b c d e f g h i j k l m n o p q->
 a (av b 2) c d e f g h i j k l m p0 o p q)/\
 (∀ b:Nat->Bool,b 3=false->∀ c d e f g h i j k l m n o p q,a b c d e f g h i j k l m n o p q->
 RR (aR 82 4 [(0,(.string ⟨#[112]⟩)),(1,(.string ⟨#[61]⟩)),(2,(.string ⟨#[60]⟩)),(3,(.string ⟨#[113]⟩))]) q fun m q=>
 a (av b 3) c d e f g h i j k l m n o p q)/\
 (∀ b:Nat->Bool,b 4=false->b 2=true->b 3=true->∀ c d e f g h i j k l m n o p q,a b c d e f g h i j k l m n o p q->
 RR (ay (.func (.func 109) #[] #[]) [n,m]) q fun l q=>
 a (av b 4) c d e f g h i j k l m n o p q)/\
 (∀ b:Nat->Bool,b 5=false->∀ c d e f g h i j k l m n o p q,a b c d e f g h i j k l m n o p q->
 a (av b 5) c d e f g h i j p0 l m n o p q)/\
 (∀ b:Nat->Bool,b 6=false->b 5=true->b 4=true->∀ c d e f g h i j k l m n o p q,a b c d e f g h i j k l m n o p q->
 RR (ay (.func (.func 110) #[] #[]) [k,(.int .i64 2)]) q fun j q=>
 a (av b 6) c d e f g h i j k l m n o p q)/\
 (∀ b:Nat->Bool,b 7=false->∀ c d e f g h i j k l m n o p q,a b c d e f g h i j k l m n o p q->
 a (av b 7) c d e f g h p0 j k l m n o p q)/\
 (∀ b:Nat->Bool,b 8=false->b 7=true->b 6=true->∀ c d e f g h i j k l m n o p q,a b c d e f g h i j k l m n o p q->
 RR (ay (.func (.func 110) #[] #[]) [i,(.int .i64 2)]) q fun h q=>
 a (av b 8) c d e f g h i j k l m n o p q)/\
 (∀ b:Nat->Bool,b 9=false->b 6=true->b 8=true->∀ c d e f g h i j k l m n o p q,a b c d e f g h i j k l m n o p q->
 RR (aR 30 2 [(0,j),(1,h)]) q fun g q=>
 a (av b 9) c d e f g h i j k l m n o p q)/\
 (∀ b:Nat->Bool,b 10=false->b 4=true->b 9=true->b 8=true->∀ c d e f g h i j k l m n o p q,a b c d e f g h i j k l m n o p q->
 RR (ay (.func (.func 106) #[] #[]) [l,g]) q fun f q=>
 a (av b 10) c d e f g h i j k l m n o p q)/\
 (∀ b:Nat->Bool,b 11=false->b 10=true->∀ c d e f g h i j k l m n o p q,a b c d e f g h i j k l m n o p q->
 RR (aR 30 1 [(0,f)]) q fun e q=>
 a (av b 11) c d e f g h i j k l m n o p q)/\
 (∀ b:Nat->Bool,b 12=false->b 1=true->b 11=true->b 10=true->∀ c d e f g h i j k l m n o p q,a b c d e f g h i j k l m n o p q->
 RR (aA .append #[30,30] 30 [false,false] [o,e]) q fun d q=>
 a (av b 12) c d e f g h i j k l m n o p q)/\
 (∀ b:Nat->Bool,b 13=false->b 0=true->b 1=true->b 2=true->b 3=true->b 4=true->b 5=true->b 6=true->b 7=true->b 8=true->b 9=true->b 10=true->b 11=true->b 12=true->∀ d e f g h i j k l m n o p q r,a b d e f g h i j k l m n o p q r->
 RR (sOp (.fieldAddr 34 (.const c) 1) 0) r fun c d=>
 a (av b 13) c e f g h i j k l m n o p q d)/\
 (∀ b:Nat->Bool,b 14=false->b 13=true->b 12=true->b 12=true->b 0=true->b 1=true->b 2=true->b 3=true->b 4=true->b 5=true->b 6=true->b 7=true->b 8=true->b 9=true->b 10=true->b 11=true->b 12=true->∀ c d e f g h i j k l m n o p q,a b c d e f g h i j k l m n o p q->
 RR (sOp (.store 30 (.const c) (.const d)) 0) q fun _ q=>
 a (av b 14) c d e f g h i j k l m n o p q)/\
 True)/\
 ∀ c:Nat->Bool,c 14=true->c 13=true->c 12=true->c 11=true->c 10=true->c 9=true->c 8=true->c 7=true->c 6=true->c 5=true->c 4=true->c 3=true->c 2=true->c 1=true->c 0=true->∀ d g h i j k l m n o p q r s u,a c d g h i j k l m n o p q r s u->
 RR (au .sub 3 false true b (.int .i64 1)) u fun a c=>
 e a c/\f a c<f b t)) (
 RR (sOp (.load 34 (.const c)) 34) v fun b c=>
 RR (sOp (.store 34 (.const a) (.const b)) 0) c fun _ b=>
 (ba Tryz.prog 34 a b fun a=>R (.returned a) b))))
theorem pK {p0:Value} {w:World} {R:Ending->World->Prop} (h:mK p0 w R):Calls Tryz.prog 59 #[p0] w R:=
  aL (.seq none .leaf (.seq none .leaf (.seq none .leaf (.seq none .leaf (.seq none (.seq none .leaf (.one (.loop [5] .leaf))) .leaf))))) [p0] bl Tryz.func59 (by kernel_rfl) (by kernel_rfl) h


/- (*loop.example/prologserver/spec.l18Rd).pick : function 61 -/
def ku (p0 p1:Value) (w:World) (R:Ending->World->Prop):Prop:=
 RR (sOp (.nilCheck (.const p0)) 0) w fun a b=>
 RR (sOp (.fieldAddr 102 (.const a) 1) 0) b fun a b=>
 RR (sOp (.load 3 (.const a)) 3) b fun a b=>
 RR (au .add 3 false true a (.int .i64 1)) b fun a b=>
 RR (sOp (.nilCheck (.const p0)) 0) b fun b c=>
 RR (sOp (.fieldAddr 102 (.const b) 1) 0) c fun b c=>
 RR (sOp (.store 3 (.const b) (.const a)) 0) c fun _ a=>
 (∃ b:Value->World->Prop,(
 RR (au .lss 3 false true p1 (.int .i64 1)) a fun a c=>
 ah a false (
 RR (sOp (.nilCheck (.const p0)) 0) c fun c d=>
 RR (sOp (.fieldAddr 102 (.const c) 0) 0) d fun c d=>
 RR (sOp (.load 22 (.const c)) 22) d fun c d=>
 RR (aA .len #[22] 3 [false] [c]) d fun c d=>
 RR (au .eql 3 false true c (.int .i64 0)) d fun c d=>
 RR (sOp (.pick (.const a) (.const (.bool true)) (.const c)) 4) d fun a c=>
 b a c) (
 RR (sOp (.pick (.const a) (.const (.bool true)) (.const undef)) 4) c fun a c=>
 b a c))/\
 ∀ a _ _ _ _ _ _ _ _ _:Value,∀ c:World,b a c->
 CondV a (
 R (.returned (.int .i64 0)) c) (
 RR (sOp (.nilCheck (.const p0)) 0) c fun a b=>
 RR (sOp (.fieldAddr 102 (.const a) 1) 0) b fun a b=>
 RR (sOp (.load 3 (.const a)) 3) b fun a b=>
 RR (au .sub 3 false true a (.int .i64 1)) b fun a b=>
 RR (sOp (.nilCheck (.const p0)) 0) b fun b c=>
 RR (sOp (.fieldAddr 102 (.const b) 0) 0) c fun b c=>
 RR (sOp (.load 22 (.const b)) 22) c fun b c=>
 RR (aA .len #[22] 3 [false] [b]) c fun b c=>
 RR (au .lss 3 false false a b) c fun b c=>
 CondV b (
 RR (sOp (.nilCheck (.const p0)) 0) c fun b c=>
 RR (sOp (.fieldAddr 102 (.const b) 0) 0) c fun b c=>
 RR (sOp (.load 22 (.const b)) 22) c fun b c=>
 RR (sOp (.indexAddr 22 (.const b) (.const a)) 0) c fun a b=>
 RR (sOp (.load 5 (.const a)) 5) b fun a b=>
 RR (sOp (.convert 5 3 (.const a)) 3) b fun a b=>
 RR (au .rem 3 false false a p1) b fun a b=>
 R (.returned a) b) (
 (∃ b:(Nat->Bool)->Value->Value->Value->Value->Value->Value->Value->Value->Value->Value->Value->Value->Value->Value->Value->Value->Value->Value->Value->Value->Value->Value->Value->Value->Value->Value->Value->Value->Value->Value->Value->Value->Value->Value->Value->Value->Value->Value->Value->Value->Value->Value->Value->Value->Value->Value->World->Prop,b (fun _=>false) undef undef undef undef undef undef undef undef undef undef undef undef undef undef undef undef undef undef undef undef undef undef undef undef undef undef undef undef undef undef undef undef undef undef undef undef undef undef undef undef undef undef undef undef undef undef { c with drawn:=c.drawn+1 }/\(
 (∀ a:Nat->Bool,a 0=false->∀ c d e f g h i j k l m n o p q r s t u v x y z A B C D E F G H I J K L M N O P Q S T U V W X Y,b a c d e f g h i j k l m n o p q r s t u v x y z A B C D E F G H I J K L M N O P Q S T U V W X Y->
 b (av a 0) c d e f g h i j k l m n o p q r s t u v x y z A B C D E F G H I J K L M N O P Q S T U V W p0 Y)/\
 (∀ a:Nat->Bool,a 1=false->a 0=true->∀ c d e f g h i j k l m n o p q r s t u v x y z A B C D E F G H I J K L M N O P Q S T U V W X Y,b a c d e f g h i j k l m n o p q r s t u v x y z A B C D E F G H I J K L M N O P Q S T U V W X Y->
 RR (sOp (.nilCheck (.const X)) 0) Y fun W Y=>
 b (av a 1) c d e f g h i j k l m n o p q r s t u v x y z A B C D E F G H I J K L M N O P Q S T U V W X Y)/\
 (∀ a:Nat->Bool,a 2=false->a 1=true->∀ c d e f g h i j k l m n o p q r s t u v x y z A B C D E F G H I J K L M N O P Q S T U V W X Y,b a c d e f g h i j k l m n o p q r s t u v x y z A B C D E F G H I J K L M N O P Q S T U V W X Y->
 RR (sOp (.fieldAddr 102 (.const W) 0) 0) Y fun V Y=>
 b (av a 2) c d e f g h i j k l m n o p q r s t u v x y z A B C D E F G H I J K L M N O P Q S T U V W X Y)/\
 (∀ a:Nat->Bool,a 3=false->a 2=true->∀ c d e f g h i j k l m n o p q r s t u v x y z A B C D E F G H I J K L M N O P Q S T U V W X Y,b a c d e f g h i j k l m n o p q r s t u v x y z A B C D E F G H I J K L M N O P Q S T U V W X Y->
 RR (sOp (.load 22 (.const V)) 22) Y fun U Y=>
 b (av a 3) c d e f g h i j k l m n o p q r s t u v x y z A B C D E F G H I J K L M N O P Q S T U V W X Y)/\
 (∀ c:Nat->Bool,c 4=false->∀ d e f g h i j k l m n o p q r s t u v x y z A B C D E F G H I J K L M N O P Q S T U V W X Y Z,b c d e f g h i j k l m n o p q r s t u v x y z A B C D E F G H I J K L M N O P Q S T U V W X Y Z->
 b (av c 4) d e f g h i j k l m n o p q r s t u v x y z A B C D E F G H I J K L M N O P Q S T a V W X Y Z)/\
 (∀ a:Nat->Bool,a 5=false->∀ c d e f g h i j k l m n o p q r s t u v x y z A B C D E F G H I J K L M N O P Q S T U V W X Y,b a c d e f g h i j k l m n o p q r s t u v x y z A B C D E F G H I J K L M N O P Q S T U V W X Y->
 b (av a 5) c d e f g h i j k l m n o p q r s t u v x y z A B C D E F G H I J K L M N O P Q p0 T U V W X Y)/\
 (∀ a:Nat->Bool,a 6=false->a 5=true->∀ c d e f g h i j k l m n o p q r s t u v x y z A B C D E F G H I J K L M N O P Q S T U V W X Y,b a c d e f g h i j k l m n o p q r s t u v x y z A B C D E F G H I J K L M N O P Q S T U V W X Y->
 RR (sOp (.nilCheck (.const S)) 0) Y fun Q Y=>
 b (av a 6) c d e f g h i j k l m n o p q r s t u v x y z A B C D E F G H I J K L M N O P Q S T U V W X Y)/\
 (∀ a:Nat->Bool,a 7=false->a 6=true->∀ c d e f g h i j k l m n o p q r s t u v x y z A B C D E F G H I J K L M N O P Q S T U V W X Y,b a c d e f g h i j k l m n o p q r s t u v x y z A B C D E F G H I J K L M N O P Q S T U V W X Y->
 RR (sOp (.fieldAddr 102 (.const Q) 0) 0) Y fun P Y=>
 b (av a 7) c d e f g h i j k l m n o p q r s t u v x y z A B C D E F G H I J K L M N O P Q S T U V W X Y)/\
 (∀ a:Nat->Bool,a 8=false->a 7=true->∀ c d e f g h i j k l m n o p q r s t u v x y z A B C D E F G H I J K L M N O P Q S T U V W X Y,b a c d e f g h i j k l m n o p q r s t u v x y z A B C D E F G H I J K L M N O P Q S T U V W X Y->
 RR (sOp (.load 22 (.const P)) 22) Y fun O Y=>
 b (av a 8) c d e f g h i j k l m n o p q r s t u v x y z A B C D E F G H I J K L M N O P Q S T U V W X Y)/\
 (∀ a:Nat->Bool,a 9=false->a 8=true->∀ c d e f g h i j k l m n o p q r s t u v x y z A B C D E F G H I J K L M N O P Q S T U V W X Y,b a c d e f g h i j k l m n o p q r s t u v x y z A B C D E F G H I J K L M N O P Q S T U V W X Y->
 RR (aA .len #[22] 3 [false] [O]) Y fun N Y=>
 b (av a 9) c d e f g h i j k l m n o p q r s t u v x y z A B C D E F G H I J K L M N O P Q S T U V W X Y)/\
 (∀ a:Nat->Bool,a 10=false->a 4=true->a 9=true->∀ c d e f g h i j k l m n o p q r s t u v x y z A B C D E F G H I J K L M N O P Q S T U V W X Y,b a c d e f g h i j k l m n o p q r s t u v x y z A B C D E F G H I J K L M N O P Q S T U V W X Y->
 RR (au .rem 3 false false T N) Y fun M Y=>
 b (av a 10) c d e f g h i j k l m n o p q r s t u v x y z A B C D E F G H I J K L M N O P Q S T U V W X Y)/\
 (∀ a:Nat->Bool,a 11=false->a 3=true->a 10=true->∀ c d e f g h i j k l m n o p q r s t u v x y z A B C D E F G H I J K L M N O P Q S T U V W X Y,b a c d e f g h i j k l m n o p q r s t u v x y z A B C D E F G H I J K L M N O P Q S T U V W X Y->
 RR (sOp (.indexAddr 22 (.const U) (.const M)) 0) Y fun L Y=>
 b (av a 11) c d e f g h i j k l m n o p q r s t u v x y z A B C D E F G H I J K L M N O P Q S T U V W X Y)/\
 (∀ a:Nat->Bool,a 12=false->a 11=true->∀ c d e f g h i j k l m n o p q r s t u v x y z A B C D E F G H I J K L M N O P Q S T U V W X Y,b a c d e f g h i j k l m n o p q r s t u v x y z A B C D E F G H I J K L M N O P Q S T U V W X Y->
 RR (sOp (.load 5 (.const L)) 5) Y fun K Y=>
 b (av a 12) c d e f g h i j k l m n o p q r s t u v x y z A B C D E F G H I J K L M N O P Q S T U V W X Y)/\
 (∀ a:Nat->Bool,a 13=false->a 12=true->∀ c d e f g h i j k l m n o p q r s t u v x y z A B C D E F G H I J K L M N O P Q S T U V W X Y,b a c d e f g h i j k l m n o p q r s t u v x y z A B C D E F G H I J K L M N O P Q S T U V W X Y->
 RR (sOp (.convert 5 3 (.const K)) 3) Y fun J Y=>
 b (av a 13) c d e f g h i j k l m n o p q r s t u v x y z A B C D E F G H I J K L M N O P Q S T U V W X Y)/\
 (∀ a:Nat->Bool,a 14=false->a 13=true->∀ c d e f g h i j k l m n o p q r s t u v x y z A B C D E F G H I J K L M N O P Q S T U V W X Y,b a c d e f g h i j k l m n o p q r s t u v x y z A B C D E F G H I J K L M N O P Q S T U V W X Y->
 RR (au .mul 3 false true J (.int .i64 131)) Y fun I Y=>
 b (av a 14) c d e f g h i j k l m n o p q r s t u v x y z A B C D E F G H I J K L M N O P Q S T U V W X Y)/\
 (∀ a:Nat->Bool,a 15=false->∀ c d e f g h i j k l m n o p q r s t u v x y z A B C D E F G H I J K L M N O P Q S T U V W X Y,b a c d e f g h i j k l m n o p q r s t u v x y z A B C D E F G H I J K L M N O P Q S T U V W X Y->
 b (av a 15) c d e f g h i j k l m n o p q r s t u v x y z A B C D E F G p0 I J K L M N O P Q S T U V W X Y)/\
 (∀ a:Nat->Bool,a 16=false->a 15=true->∀ c d e f g h i j k l m n o p q r s t u v x y z A B C D E F G H I J K L M N O P Q S T U V W X Y,b a c d e f g h i j k l m n o p q r s t u v x y z A B C D E F G H I J K L M N O P Q S T U V W X Y->
 RR (sOp (.nilCheck (.const H)) 0) Y fun G Y=>
 b (av a 16) c d e f g h i j k l m n o p q r s t u v x y z A B C D E F G H I J K L M N O P Q S T U V W X Y)/\
 (∀ a:Nat->Bool,a 17=false->a 16=true->∀ c d e f g h i j k l m n o p q r s t u v x y z A B C D E F G H I J K L M N O P Q S T U V W X Y,b a c d e f g h i j k l m n o p q r s t u v x y z A B C D E F G H I J K L M N O P Q S T U V W X Y->
 RR (sOp (.fieldAddr 102 (.const G) 0) 0) Y fun F Y=>
 b (av a 17) c d e f g h i j k l m n o p q r s t u v x y z A B C D E F G H I J K L M N O P Q S T U V W X Y)/\
 (∀ a:Nat->Bool,a 18=false->a 17=true->∀ c d e f g h i j k l m n o p q r s t u v x y z A B C D E F G H I J K L M N O P Q S T U V W X Y,b a c d e f g h i j k l m n o p q r s t u v x y z A B C D E F G H I J K L M N O P Q S T U V W X Y->
 RR (sOp (.load 22 (.const F)) 22) Y fun E Y=>
 b (av a 18) c d e f g h i j k l m n o p q r s t u v x y z A B C D E F G H I J K L M N O P Q S T U V W X Y)/\
 (∀ c:Nat->Bool,c 19=false->∀ d e f g h i j k l m n o p q r s t u v x y z A B C D E F G H I J K L M N O P Q S T U V W X Y Z,b c d e f g h i j k l m n o p q r s t u v x y z A B C D E F G H I J K L M N O P Q S T U V W X Y Z->
 b (av c 19) d e f g h i j k l m n o p q r s t u v x y z A B C D a F G H I J K L M N O P Q S T U V W X Y Z)/\
 (∀ a:Nat->Bool,a 20=false->a 19=true->∀ c d e f g h i j k l m n o p q r s t u v x y z A B C D E F G H I J K L M N O P Q S T U V W X Y,b a c d e f g h i j k l m n o p q r s t u v x y z A B C D E F G H I J K L M N O P Q S T U V W X Y->
 RR (au .mul 3 false true D (.int .i64 7)) Y fun C Y=>
 b (av a 20) c d e f g h i j k l m n o p q r s t u v x y z A B C D E F G H I J K L M N O P Q S T U V W X Y)/\
 (∀ a:Nat->Bool,a 21=false->a 20=true->∀ c d e f g h i j k l m n o p q r s t u v x y z A B C D E F G H I J K L M N O P Q S T U V W X Y,b a c d e f g h i j k l m n o p q r s t u v x y z A B C D E F G H I J K L M N O P Q S T U V W X Y->
 RR (au .add 3 false true C (.int .i64 3)) Y fun B Y=>
 b (av a 21) c d e f g h i j k l m n o p q r s t u v x y z A B C D E F G H I J K L M N O P Q S T U V W X Y)/\
 (∀ a:Nat->Bool,a 22=false->∀ c d e f g h i j k l m n o p q r s t u v x y z A B C D E F G H I J K L M N O P Q S T U V W X Y,b a c d e f g h i j k l m n o p q r s t u v x y z A B C D E F G H I J K L M N O P Q S T U V W X Y->
 b (av a 22) c d e f g h i j k l m n o p q r s t u v x y z p0 B C D E F G H I J K L M N O P Q S T U V W X Y)/\
 (∀ a:Nat->Bool,a 23=false->a 22=true->∀ c d e f g h i j k l m n o p q r s t u v x y z A B C D E F G H I J K L M N O P Q S T U V W X Y,b a c d e f g h i j k l m n o p q r s t u v x y z A B C D E F G H I J K L M N O P Q S T U V W X Y->
 RR (sOp (.nilCheck (.const A)) 0) Y fun z Y=>
 b (av a 23) c d e f g h i j k l m n o p q r s t u v x y z A B C D E F G H I J K L M N O P Q S T U V W X Y)/\
 (∀ a:Nat->Bool,a 24=false->a 23=true->∀ c d e f g h i j k l m n o p q r s t u v x y z A B C D E F G H I J K L M N O P Q S T U V W X Y,b a c d e f g h i j k l m n o p q r s t u v x y z A B C D E F G H I J K L M N O P Q S T U V W X Y->
 RR (sOp (.fieldAddr 102 (.const z) 0) 0) Y fun y Y=>
 b (av a 24) c d e f g h i j k l m n o p q r s t u v x y z A B C D E F G H I J K L M N O P Q S T U V W X Y)/\
 (∀ a:Nat->Bool,a 25=false->a 24=true->∀ c d e f g h i j k l m n o p q r s t u v x y z A B C D E F G H I J K L M N O P Q S T U V W X Y,b a c d e f g h i j k l m n o p q r s t u v x y z A B C D E F G H I J K L M N O P Q S T U V W X Y->
 RR (sOp (.load 22 (.const y)) 22) Y fun x Y=>
 b (av a 25) c d e f g h i j k l m n o p q r s t u v x y z A B C D E F G H I J K L M N O P Q S T U V W X Y)/\
 (∀ a:Nat->Bool,a 26=false->a 25=true->∀ c d e f g h i j k l m n o p q r s t u v x y z A B C D E F G H I J K L M N O P Q S T U V W X Y,b a c d e f g h i j k l m n o p q r s t u v x y z A B C D E F G H I J K L M N O P Q S T U V W X Y->
 RR (aA .len #[22] 3 [false] [x]) Y fun v Y=>
 b (av a 26) c d e f g h i j k l m n o p q r s t u v x y z A B C D E F G H I J K L M N O P Q S T U V W X Y)/\
 (∀ a:Nat->Bool,a 27=false->a 21=true->a 26=true->∀ c d e f g h i j k l m n o p q r s t u v x y z A B C D E F G H I J K L M N O P Q S T U V W X Y,b a c d e f g h i j k l m n o p q r s t u v x y z A B C D E F G H I J K L M N O P Q S T U V W X Y->
 RR (au .rem 3 false false B v) Y fun u Y=>
 b (av a 27) c d e f g h i j k l m n o p q r s t u v x y z A B C D E F G H I J K L M N O P Q S T U V W X Y)/\
 (∀ a:Nat->Bool,a 28=false->a 18=true->a 27=true->∀ c d e f g h i j k l m n o p q r s t u v x y z A B C D E F G H I J K L M N O P Q S T U V W X Y,b a c d e f g h i j k l m n o p q r s t u v x y z A B C D E F G H I J K L M N O P Q S T U V W X Y->
 RR (sOp (.indexAddr 22 (.const E) (.const u)) 0) Y fun t Y=>
 b (av a 28) c d e f g h i j k l m n o p q r s t u v x y z A B C D E F G H I J K L M N O P Q S T U V W X Y)/\
 (∀ a:Nat->Bool,a 29=false->a 28=true->∀ c d e f g h i j k l m n o p q r s t u v x y z A B C D E F G H I J K L M N O P Q S T U V W X Y,b a c d e f g h i j k l m n o p q r s t u v x y z A B C D E F G H I J K L M N O P Q S T U V W X Y->
 RR (sOp (.load 5 (.const t)) 5) Y fun s Y=>
 b (av a 29) c d e f g h i j k l m n o p q r s t u v x y z A B C D E F G H I J K L M N O P Q S T U V W X Y)/\
 (∀ a:Nat->Bool,a 30=false->a 29=true->∀ c d e f g h i j k l m n o p q r s t u v x y z A B C D E F G H I J K L M N O P Q S T U V W X Y,b a c d e f g h i j k l m n o p q r s t u v x y z A B C D E F G H I J K L M N O P Q S T U V W X Y->
 RR (sOp (.convert 5 3 (.const s)) 3) Y fun r Y=>
 b (av a 30) c d e f g h i j k l m n o p q r s t u v x y z A B C D E F G H I J K L M N O P Q S T U V W X Y)/\
 (∀ a:Nat->Bool,a 31=false->a 30=true->∀ c d e f g h i j k l m n o p q r s t u v x y z A B C D E F G H I J K L M N O P Q S T U V W X Y,b a c d e f g h i j k l m n o p q r s t u v x y z A B C D E F G H I J K L M N O P Q S T U V W X Y->
 RR (au .mul 3 false true r (.int .i64 1117)) Y fun q Y=>
 b (av a 31) c d e f g h i j k l m n o p q r s t u v x y z A B C D E F G H I J K L M N O P Q S T U V W X Y)/\
 (∀ a:Nat->Bool,a 32=false->a 14=true->a 31=true->∀ c d e f g h i j k l m n o p q r s t u v x y z A B C D E F G H I J K L M N O P Q S T U V W X Y,b a c d e f g h i j k l m n o p q r s t u v x y z A B C D E F G H I J K L M N O P Q S T U V W X Y->
 RR (au .add 3 false false I q) Y fun p Y=>
 b (av a 32) c d e f g h i j k l m n o p q r s t u v x y z A B C D E F G H I J K L M N O P Q S T U V W X Y)/\
 (∀ c:Nat->Bool,c 33=false->∀ d e f g h i j k l m n o p q r s t u v x y z A B C D E F G H I J K L M N O P Q S T U V W X Y Z,b c d e f g h i j k l m n o p q r s t u v x y z A B C D E F G H I J K L M N O P Q S T U V W X Y Z->
 b (av c 33) d e f g h i j k l m n o a q r s t u v x y z A B C D E F G H I J K L M N O P Q S T U V W X Y Z)/\
 (∀ a:Nat->Bool,a 34=false->a 33=true->∀ c d e f g h i j k l m n o p q r s t u v x y z A B C D E F G H I J K L M N O P Q S T U V W X Y,b a c d e f g h i j k l m n o p q r s t u v x y z A B C D E F G H I J K L M N O P Q S T U V W X Y->
 RR (au .mul 3 false true o (.int .i64 29)) Y fun n Y=>
 b (av a 34) c d e f g h i j k l m n o p q r s t u v x y z A B C D E F G H I J K L M N O P Q S T U V W X Y)/\
 (∀ a:Nat->Bool,a 35=false->a 32=true->a 34=true->∀ c d e f g h i j k l m n o p q r s t u v x y z A B C D E F G H I J K L M N O P Q S T U V W X Y,b a c d e f g h i j k l m n o p q r s t u v x y z A B C D E F G H I J K L M N O P Q S T U V W X Y->
 RR (au .add 3 false false p n) Y fun m Y=>
 b (av a 35) c d e f g h i j k l m n o p q r s t u v x y z A B C D E F G H I J K L M N O P Q S T U V W X Y)/\
 (∀ c:Nat->Bool,c 36=false->∀ d e f g h i j k l m n o p q r s t u v x y z A B C D E F G H I J K L M N O P Q S T U V W X Y Z,b c d e f g h i j k l m n o p q r s t u v x y z A B C D E F G H I J K L M N O P Q S T U V W X Y Z->
 b (av c 36) d e f g h i j k l a n o p q r s t u v x y z A B C D E F G H I J K L M N O P Q S T U V W X Y Z)/\
 (∀ a:Nat->Bool,a 37=false->∀ c d e f g h i j k l m n o p q r s t u v x y z A B C D E F G H I J K L M N O P Q S T U V W X Y,b a c d e f g h i j k l m n o p q r s t u v x y z A B C D E F G H I J K L M N O P Q S T U V W X Y->
 b (av a 37) c d e f g h i j p0 l m n o p q r s t u v x y z A B C D E F G H I J K L M N O P Q S T U V W X Y)/\
 (∀ a:Nat->Bool,a 38=false->a 37=true->∀ c d e f g h i j k l m n o p q r s t u v x y z A B C D E F G H I J K L M N O P Q S T U V W X Y,b a c d e f g h i j k l m n o p q r s t u v x y z A B C D E F G H I J K L M N O P Q S T U V W X Y->
 RR (sOp (.nilCheck (.const k)) 0) Y fun j Y=>
 b (av a 38) c d e f g h i j k l m n o p q r s t u v x y z A B C D E F G H I J K L M N O P Q S T U V W X Y)/\
 (∀ a:Nat->Bool,a 39=false->a 38=true->∀ c d e f g h i j k l m n o p q r s t u v x y z A B C D E F G H I J K L M N O P Q S T U V W X Y,b a c d e f g h i j k l m n o p q r s t u v x y z A B C D E F G H I J K L M N O P Q S T U V W X Y->
 RR (sOp (.fieldAddr 102 (.const j) 0) 0) Y fun i Y=>
 b (av a 39) c d e f g h i j k l m n o p q r s t u v x y z A B C D E F G H I J K L M N O P Q S T U V W X Y)/\
 (∀ a:Nat->Bool,a 40=false->a 39=true->∀ c d e f g h i j k l m n o p q r s t u v x y z A B C D E F G H I J K L M N O P Q S T U V W X Y,b a c d e f g h i j k l m n o p q r s t u v x y z A B C D E F G H I J K L M N O P Q S T U V W X Y->
 RR (sOp (.load 22 (.const i)) 22) Y fun h Y=>
 b (av a 40) c d e f g h i j k l m n o p q r s t u v x y z A B C D E F G H I J K L M N O P Q S T U V W X Y)/\
 (∀ a:Nat->Bool,a 41=false->a 40=true->∀ c d e f g h i j k l m n o p q r s t u v x y z A B C D E F G H I J K L M N O P Q S T U V W X Y,b a c d e f g h i j k l m n o p q r s t u v x y z A B C D E F G H I J K L M N O P Q S T U V W X Y->
 RR (aA .len #[22] 3 [false] [h]) Y fun g Y=>
 b (av a 41) c d e f g h i j k l m n o p q r s t u v x y z A B C D E F G H I J K L M N O P Q S T U V W X Y)/\
 (∀ a:Nat->Bool,a 42=false->a 36=true->a 41=true->∀ c d e f g h i j k l m n o p q r s t u v x y z A B C D E F G H I J K L M N O P Q S T U V W X Y,b a c d e f g h i j k l m n o p q r s t u v x y z A B C D E F G H I J K L M N O P Q S T U V W X Y->
 RR (au .quo 3 false false l g) Y fun f Y=>
 b (av a 42) c d e f g h i j k l m n o p q r s t u v x y z A B C D E F G H I J K L M N O P Q S T U V W X Y)/\
 (∀ a:Nat->Bool,a 43=false->a 42=true->∀ c d e f g h i j k l m n o p q r s t u v x y z A B C D E F G H I J K L M N O P Q S T U V W X Y,b a c d e f g h i j k l m n o p q r s t u v x y z A B C D E F G H I J K L M N O P Q S T U V W X Y->
 RR (au .mul 3 false true f (.int .i64 53)) Y fun e Y=>
 b (av a 43) c d e f g h i j k l m n o p q r s t u v x y z A B C D E F G H I J K L M N O P Q S T U V W X Y)/\
 (∀ a:Nat->Bool,a 44=false->a 35=true->a 43=true->∀ c d e f g h i j k l m n o p q r s t u v x y z A B C D E F G H I J K L M N O P Q S T U V W X Y,b a c d e f g h i j k l m n o p q r s t u v x y z A B C D E F G H I J K L M N O P Q S T U V W X Y->
 RR (au .add 3 false false m e) Y fun d Y=>
 b (av a 44) c d e f g h i j k l m n o p q r s t u v x y z A B C D E F G H I J K L M N O P Q S T U V W X Y)/\
 (∀ a:Nat->Bool,a 45=false->a 44=true->a 0=true->a 1=true->a 2=true->a 3=true->a 4=true->a 5=true->a 6=true->a 7=true->a 8=true->a 9=true->a 10=true->a 11=true->a 12=true->a 13=true->a 14=true->a 15=true->a 16=true->a 17=true->a 18=true->a 19=true->a 20=true->a 21=true->a 22=true->a 23=true->a 24=true->a 25=true->a 26=true->a 27=true->a 28=true->a 29=true->a 30=true->a 31=true->a 32=true->a 33=true->a 34=true->a 35=true->a 36=true->a 37=true->a 38=true->a 39=true->a 40=true->a 41=true->a 42=true->a 43=true->a 44=true->∀ c d e f g h i j k l m n o p q r s t u v x y z A B C D E F G H I J K L M N O P Q S T U V W X Y,b a c d e f g h i j k l m n o p q r s t u v x y z A B C D E F G H I J K L M N O P Q S T U V W X Y->
 b (av a 45) d d e f g h i j k l m n o p q r s t u v x y z A B C D E F G H I J K L M N O P Q S T U V W X Y)/\
 True)/\
 ∀ a:Nat->Bool,a 45=true->a 44=true->a 43=true->a 42=true->a 41=true->a 40=true->a 39=true->a 38=true->a 37=true->a 36=true->a 35=true->a 34=true->a 33=true->a 32=true->a 31=true->a 30=true->a 29=true->a 28=true->a 27=true->a 26=true->a 25=true->a 24=true->a 23=true->a 22=true->a 21=true->a 20=true->a 19=true->a 18=true->a 17=true->a 16=true->a 15=true->a 14=true->a 13=true->a 12=true->a 11=true->a 10=true->a 9=true->a 8=true->a 7=true->a 6=true->a 5=true->a 4=true->a 3=true->a 2=true->a 1=true->a 0=true->∀ c d e f g h i j k l m n o p q r s t u v x y z A B C D E F G H I J K L M N O P Q S T U V W X Y,b a c d e f g h i j k l m n o p q r s t u v x y z A B C D E F G H I J K L M N O P Q S T U V W X Y->
 RR (au .quo 3 false true c (.int .i64 64)) Y fun a b=>
 RR (au .xor 3 false false c a) b fun a b=>
 RR (au .rem 3 false false a p1) b fun a b=>
 R (.returned a) b))))
theorem ni {p0 p1:Value} {w:World} {R:Ending->World->Prop} (h:ku p0 p1 w R):Calls Tryz.prog 61 #[p0,p1] w R:=
  aL (.seq none .leaf (.seq none .leaf (.seq none (.seq (some [24]) .leaf .leaf) .leaf))) [p0,p1] bl Tryz.func61 (by kernel_rfl) (by kernel_rfl) h


/- loop.example/prologserver/spec.l4Mutate : function 62 -/
def mj (p0 p1:Value) (w:World) (R:Ending->World->Prop):Prop:=
 RR (sOp (.box 34 (.const p1)) 0) w fun a b=>
 RR (sOp (.alloc 34) 0) b fun b c=>
 RR (sOp (.load 34 (.const a)) 34) c fun a c=>
 RR (ay (.func (.func 111) #[] #[]) [a]) c fun a c=>
 RR (sOp (.alloc 34) 0) c fun c d=>
 RR (sOp (.store 34 (.const c) (.const a)) 0) d fun _ a=>
 (∃ d:World->Prop,(
 RR (ay (.func (.func 61) #[] #[]) [p0,(.int .i64 40)]) a fun a b=>
 RR (au .eql 3 false true a (.int .i64 0)) b fun b e=>
 CondV b (
 RR (ay (.func (.func 113) #[] #[]) [p0]) e fun a b=>
 RR (ay (.func (.func 112) #[] #[]) [p0,a]) b fun a b=>
 RR (sOp (.fieldAddr 34 (.const c) 0) 0) b fun b c=>
 RR (sOp (.store 32 (.const b) (.const a)) 0) c fun _ a=>
 d a) (
 RR (au .eql 3 false true a (.int .i64 1)) e fun b e=>
 CondV b (
 (∃ a:(Nat->Bool)->Value->Value->Value->Value->Value->Value->Value->Value->Value->World->Prop,a (fun _=>false) undef undef undef undef undef undef undef undef undef { e with drawn:=e.drawn+1 }/\(
 (∀ b:Nat->Bool,b 0=false->∀ d e f g h i j k l m,a b d e f g h i j k l m->
 RR (sOp (.fieldAddr 34 (.const c) 1) 0) m fun c l=>
 a (av b 0) d e f g h i j k c l)/\
 (∀ b:Nat->Bool,b 1=false->b 0=true->∀ c d e f g h i j k l,a b c d e f g h i j k l->
 RR (sOp (.load 30 (.const k)) 30) l fun j l=>
 a (av b 1) c d e f g h i j k l)/\
 (∀ b:Nat->Bool,b 2=false->∀ c d e f g h i j k l,a b c d e f g h i j k l->
 a (av b 2) c d e f g h p0 j k l)/\
 (∀ b:Nat->Bool,b 3=false->∀ c d e f g h i j k l,a b c d e f g h i j k l->
 a (av b 3) c d e f g p0 i j k l)/\
 (∀ b:Nat->Bool,b 4=false->b 3=true->∀ c d e f g h i j k l,a b c d e f g h i j k l->
 RR (ay (.func (.func 113) #[] #[]) [h]) l fun g l=>
 a (av b 4) c d e f g h i j k l)/\
 (∀ b:Nat->Bool,b 5=false->b 2=true->b 4=true->b 4=true->∀ c d e f g h i j k l,a b c d e f g h i j k l->
 RR (ay (.func (.func 112) #[] #[]) [i,g]) l fun f l=>
 a (av b 5) c d e f g h i j k l)/\
 (∀ b:Nat->Bool,b 6=false->b 5=true->∀ c d e f g h i j k l,a b c d e f g h i j k l->
 RR (aR 30 1 [(0,f)]) l fun e l=>
 a (av b 6) c d e f g h i j k l)/\
 (∀ b:Nat->Bool,b 7=false->b 1=true->b 6=true->b 5=true->∀ c d e f g h i j k l,a b c d e f g h i j k l->
 RR (aA .append #[30,30] 30 [false,false] [j,e]) l fun d l=>
 a (av b 7) c d e f g h i j k l)/\
 (∀ b:Nat->Bool,b 8=false->b 0=true->b 1=true->b 2=true->b 3=true->b 4=true->b 5=true->b 6=true->b 7=true->∀ d e f g h i j k l m,a b d e f g h i j k l m->
 RR (sOp (.fieldAddr 34 (.const c) 1) 0) m fun c d=>
 a (av b 8) c e f g h i j k l d)/\
 (∀ b:Nat->Bool,b 9=false->b 8=true->b 7=true->b 7=true->b 0=true->b 1=true->b 2=true->b 3=true->b 4=true->b 5=true->b 6=true->b 7=true->∀ c d e f g h i j k l,a b c d e f g h i j k l->
 RR (sOp (.store 30 (.const c) (.const d)) 0) l fun _ l=>
 a (av b 9) c d e f g h i j k l)/\
 True)/\
 ∀ b:Nat->Bool,b 9=true->b 8=true->b 7=true->b 6=true->b 5=true->b 4=true->b 3=true->b 2=true->b 1=true->b 0=true->∀ c e f g h i j k l m,a b c e f g h i j k l m->
 d m)) (
 RR (au .eql 3 false true a (.int .i64 2)) e fun b e=>
 CondV b (
 (∃ (a:World->Prop) (b:World->Nat),a e/\
 ∀ e f g h i j _ _ _ _:Value,∀ k:World,a k->
 RR (sOp (.fieldAddr 34 (.const c) 1) 0) k fun l m=>
 RR (sOp (.load 30 (.const l)) 30) m fun l m=>
 RR (aA .len #[30] 3 [false] [l]) m fun l m=>
 RR (au .leq 3 false true l (.int .i64 6)) m fun l m=>
 CondV l (
 (∃ d:(Nat->Bool)->Value->Value->Value->Value->Value->Value->World->Prop,d (fun _=>false) e f g h i j { m with drawn:=m.drawn+1 }/\(
 (∀ a:Nat->Bool,a 0=false->∀ b e f g h i j,d a b e f g h i j->
 RR (sOp (.fieldAddr 34 (.const c) 1) 0) j fun c i=>
 d (av a 0) b e f g h c i)/\
 (∀ a:Nat->Bool,a 1=false->a 0=true->∀ b c e f g h i,d a b c e f g h i->
 RR (sOp (.load 30 (.const h)) 30) i fun g i=>
 d (av a 1) b c e f g h i)/\
 (∀ a:Nat->Bool,a 2=false->∀ b c e f g h i,d a b c e f g h i->
 RR (ay (.func (.func 106) #[] #[]) [(.string ⟨#[116,114,117,101]⟩),(Value.slice none 0 0)]) i fun f i=>
 d (av a 2) b c e f g h i)/\
 (∀ a:Nat->Bool,a 3=false->a 2=true->∀ b c e f g h i,d a b c e f g h i->
 RR (aR 30 1 [(0,f)]) i fun e i=>
 d (av a 3) b c e f g h i)/\
 (∀ a:Nat->Bool,a 4=false->a 1=true->a 3=true->a 2=true->∀ b c e f g h i,d a b c e f g h i->
 RR (aA .append #[30,30] 30 [false,false] [g,e]) i fun c i=>
 d (av a 4) b c e f g h i)/\
 (∀ a:Nat->Bool,a 5=false->a 0=true->a 1=true->a 2=true->a 3=true->a 4=true->∀ b e f g h i j,d a b e f g h i j->
 RR (sOp (.fieldAddr 34 (.const c) 1) 0) j fun b c=>
 d (av a 5) b e f g h i c)/\
 (∀ a:Nat->Bool,a 6=false->a 5=true->a 4=true->a 4=true->a 0=true->a 1=true->a 2=true->a 3=true->a 4=true->∀ b c e f g h i,d a b c e f g h i->
 RR (sOp (.store 30 (.const b) (.const c)) 0) i fun _ i=>
 d (av a 6) b c e f g h i)/\
 True)/\
 ∀ c:Nat->Bool,c 6=true->c 5=true->c 4=true->c 3=true->c 2=true->c 1=true->c 0=true->∀ e f g h i j l,d c e f g h i j l->
 a l/\b l<b k)) (
 d m))) (
 RR (au .eql 3 false true a (.int .i64 3)) e fun a b=>
 CondV a (
 RR (aR 82 5 [(0,(.string ⟨#[116,114,117,101]⟩)),(1,(.string ⟨#[105,115]⟩)),(2,(.string ⟨#[61]⟩)),(3,(.string ⟨#[109,111,100]⟩)),(4,(.string ⟨#[113]⟩))]) b fun a b=>
 RR (ay (.func (.func 109) #[] #[]) [p0,a]) b fun a b=>
 RR (sOp (.fieldAddr 34 (.const c) 0) 0) b fun b c=>
 RR (sOp (.fieldAddr 32 (.const b) 2) 0) c fun b c=>
 RR (sOp (.store 9 (.const b) (.const a)) 0) c fun _ a=>
 d a) (
 d b)))))/\
 ∀ _ _ _ _ _ _ _ _ _ _ _ _ _ _ _ _ _ _ _ _ _ _ _ _ _ _ _ _ _ _ _ _ _ _ _ _ _ _ _:Value,∀ a:World,d a->
 RR (sOp (.load 34 (.const c)) 34) a fun a c=>
 RR (sOp (.store 34 (.const b) (.const a)) 0) c fun _ a=>
 (ba Tryz.prog 34 b a fun b=>R (.returned b) a))
theorem qk {p0 p1:Value} {w:World} {R:Ending->World->Prop} (h:mj p0 p1 w R):Calls Tryz.prog 62 #[p0,p1] w R:=
  aL (.seq none .leaf (.seq none .leaf (.seq (some []) (.seq none .leaf (.one (.seq none .leaf (.two .leaf (.seq none .leaf (.two .leaf (.seq none .leaf (.two (.one (.loop [] .leaf)) .leaf)))))))) .leaf))) [p0,p1] bl Tryz.func62 (by kernel_rfl) (by kernel_rfl) h


/- loop.example/prologserver/spec.ClauseValid : function 64 -/
def jF (p0:Value) (w:World) (R:Ending->World->Prop):Prop:=
 RR (sOp (.box 34 (.const p0)) 0) w fun a b=>
 (∃ (c:Value->World->Prop) (d:Value->World->Nat),c (.int .i64 0) b/\
 ∀ b _ _ _ _ _ _ _ _ _ _ _ _ _ _ _ _ _ _ _:Value,∀ e:World,c b e->
 (∃ f:Value->World->Prop,(
 RR (sOp (.fieldAddr 34 (.const a) 1) 0) e fun a c=>
 RR (sOp (.load 30 (.const a)) 30) c fun a c=>
 RR (aA .len #[30] 3 [false] [a]) c fun a c=>
 RR (au .lss 3 false false b a) c fun a c=>
 ah a true (
 RR (au .leq 3 false true b (.int .i64 6)) c fun b c=>
 RR (sOp (.pick (.const a) (.const b) (.const (.bool false))) 4) c fun a b=>
 f a b) (
 RR (sOp (.pick (.const a) (.const undef) (.const (.bool false))) 4) c fun a b=>
 f a b))/\
 ∀ g _ _ _ _ _ _ _ _:Value,∀ h:World,f g h->
 CondV g (
 RR (sOp (.fieldAddr 34 (.const a) 1) 0) h fun a f=>
 RR (sOp (.load 30 (.const a)) 30) f fun a f=>
 RR (sOp (.indexAddr 30 (.const a) (.const b)) 0) f fun a f=>
 RR (sOp (.load 32 (.const a)) 32) f fun a f=>
 RR (ay (.func (.func 114) #[] #[]) [a]) f fun a f=>
 RR (sOp (.unOp .not 4 (.const a)) 4) f fun a f=>
 CondV a (
 R (.returned (.bool false)) f) (
 RR (au .add 3 false true b (.int .i64 1)) f fun a f=>
 c a f/\d a f<d b e)) (
 RR (sOp (.fieldAddr 34 (.const a) 1) 0) h fun b c=>
 RR (sOp (.load 30 (.const b)) 30) c fun b c=>
 RR (aA .len #[30] 3 [false] [b]) c fun b c=>
 RR (au .leq 3 false true b (.int .i64 6)) c fun b c=>
 ((fun d:VW=>ah b true (
 RR (sOp (.fieldAddr 34 (.const a) 0) 0) c fun a c=>
 RR (sOp (.load 32 (.const a)) 32) c fun a c=>
 RR (ay (.func (.func 115) #[] #[]) [a]) c fun a c=>
 RR (sOp (.pick (.const b) (.const a) (.const (.bool false))) 4) c fun a b=>d a b) (
 RR (sOp (.pick (.const b) (.const undef) (.const (.bool false))) 4) c fun a b=>d a b)) fun b c=>
 ah b true (
 RR (sOp (.fieldAddr 34 (.const a) 0) 0) c fun a c=>
 RR (sOp (.load 32 (.const a)) 32) c fun a c=>
 RR (ay (.func (.func 116) #[] #[]) [a]) c fun a c=>
 RR (sOp (.pick (.const b) (.const a) (.const (.bool false))) 4) c fun a b=>
 R (.returned a) b) (
 RR (sOp (.pick (.const b) (.const undef) (.const (.bool false))) 4) c fun a b=>
 R (.returned a) b)))))
theorem l7 {p0:Value} {w:World} {R:Ending->World->Prop} (h:jF p0 w R):Calls Tryz.prog 64 #[p0] w R:=
  aL (.seq none .leaf (.seq none (.seq none .leaf (.one (.loop [3] (.seq none (.seq (some [12]) .leaf .leaf) .leaf)))) .leaf)) [p0] bl Tryz.func64 (by kernel_rfl) (by kernel_rfl) h


/- loop.example/prologserver/impl.TermValid : function 66 -/
def kG (p0:Value) (w:World) (R:Ending->World->Prop):Prop:=
 RR (sOp (.box 32 (.const p0)) 0) w fun a b=>
 RR (sOp (.alloc 3) 0) b fun b c=>
 RR (sOp (.store 3 (.const b) (.const (.int .i64 0))) 0) c fun _ c=>
 RR (sOp (.load 32 (.const a)) 32) c fun a c=>
 RR (ay (.func (.func 118) #[] #[]) [a,(.int .i64 1),b]) c fun a b=>
 R (.returned a) b
theorem pw {p0:Value} {w:World} {R:Ending->World->Prop} (h:kG p0 w R):Calls Tryz.prog 66 #[p0] w R:=
  aL .leaf [p0] bl Tryz.func66 (by kernel_rfl) (by kernel_rfl) h


/- loop.example/prologserver/impl.isPlain : function 67 -/
def n4 (p0:Value) (w:World) (R:Ending->World->Prop):Prop:=
 RR (sOp (.box 32 (.const p0)) 0) w fun a b=>
 RR (sOp (.fieldAddr 32 (.const a) 0) 0) b fun b c=>
 RR (sOp (.load 3 (.const b)) 3) c fun b c=>
 RR (au .eql 3 false true b (.int .i64 3)) c fun b c=>
 ((fun d:VW=>ah b true (
 RR (sOp (.fieldAddr 32 (.const a) 2) 0) c fun a c=>
 RR (sOp (.load 9 (.const a)) 9) c fun a c=>
 RR (ay (.func (.func 119) #[] #[]) [a]) c fun a c=>
 RR (sOp (.pick (.const b) (.const a) (.const (.bool false))) 4) c fun a b=>d a b) (
 RR (sOp (.pick (.const b) (.const undef) (.const (.bool false))) 4) c fun a b=>d a b)) fun b c=>
 ((fun d:VW=>ah b true (
 RR (sOp (.fieldAddr 32 (.const a) 2) 0) c fun a c=>
 RR (sOp (.load 9 (.const a)) 9) c fun a c=>
 RR (ay (.func (.func 120) #[] #[]) [a]) c fun a c=>
 RR (sOp (.unOp .not 4 (.const a)) 4) c fun a c=>
 RR (sOp (.pick (.const b) (.const a) (.const (.bool false))) 4) c fun a b=>d a b) (
 RR (sOp (.pick (.const b) (.const undef) (.const (.bool false))) 4) c fun a b=>d a b)) fun b c=>
 ah b true (
 RR (sOp (.load 32 (.const a)) 32) c fun a c=>
 RR (ay (.func (.func 121) #[] #[]) [a]) c fun a c=>
 RR (sOp (.unOp .not 4 (.const a)) 4) c fun a c=>
 RR (sOp (.pick (.const b) (.const a) (.const (.bool false))) 4) c fun a b=>
 R (.returned a) b) (
 RR (sOp (.pick (.const b) (.const undef) (.const (.bool false))) 4) c fun a b=>
 R (.returned a) b)))
theorem rR {p0:Value} {w:World} {R:Ending->World->Prop} (h:n4 p0 w R):Calls Tryz.prog 67 #[p0] w R:=
  aL .leaf [p0] bl Tryz.func67 (by kernel_rfl) (by kernel_rfl) h


/- loop.example/prologserver/impl.goalsValid : function 68 -/
def kr (p0:Value) (w:World) (R:Ending->World->Prop):Prop:=
 RR (aA .len #[30] 3 [false] [p0]) w fun a b=>
 RR (au .leq 3 false true a (.int .i64 6)) b fun a b=>
 ah a true (
 RR (ay (.func (.func 122) #[] #[]) [p0,(.func (.func 123) #[] #[])]) b fun b c=>
 RR (sOp (.unOp .not 4 (.const b)) 4) c fun b c=>
 RR (sOp (.pick (.const a) (.const b) (.const (.bool false))) 4) c fun a b=>
 R (.returned a) b) (
 RR (sOp (.pick (.const a) (.const undef) (.const (.bool false))) 4) b fun a b=>
 R (.returned a) b)
theorem nj {p0:Value} {w:World} {R:Ending->World->Prop} (h:kr p0 w R):Calls Tryz.prog 68 #[p0] w R:=
  aL .leaf [p0] bl Tryz.func68 (by kernel_rfl) (by kernel_rfl) h


/- loop.example/prologserver/spec.ParseProgram : function 72 -/
def i5 (p0:Value) (w:World) (R:Ending->World->Prop):Prop:=
 RR (aR 23 0 []) w fun a b=>
 RR (ay (.func (.func 125) #[] #[]) [p0,(.int .u8 10)]) b fun b c=>
 (∃ d:Value->World->Prop,(
 RR (aA .len #[82] 3 [false] [b]) c fun a c=>
 RR (au .gtr 3 false true a (.int .i64 21)) c fun a c=>
 ah a false (
 RR (aA .len #[82] 3 [false] [b]) c fun c e=>
 RR (au .sub 3 false true c (.int .i64 1)) e fun c e=>
 RR (sOp (.indexAddr 82 (.const b) (.const c)) 0) e fun b c=>
 RR (sOp (.load 9 (.const b)) 9) c fun b c=>
 RR (au .neq 9 false true b (.string ⟨#[]⟩)) c fun b c=>
 RR (sOp (.pick (.const a) (.const (.bool true)) (.const b)) 4) c fun a b=>
 d a b) (
 RR (sOp (.pick (.const a) (.const (.bool true)) (.const undef)) 4) c fun a b=>
 d a b))/\
 ∀ c _ _ _ _ _ _ _ _ _ _ _:Value,∀ e:World,d c e->
 CondV c (
 R (.returned (.tuple #[a,(.bool false)])) e) (
 (∃ (c:Value->Value->World->Prop) (d:Value->Value->World->Nat),c (.int .i64 0) a e/\
 ∀ a _ _ e _ _ _ _ _ _ _ _ _ _ _ _ _ _ _ _ _ _ _ _ _ _ _ _:Value,∀ f:World,c a e f->
 RR (au .add 3 false true a (.int .i64 1)) f fun g h=>
 RR (aA .len #[82] 3 [false] [b]) h fun h i=>
 RR (au .lss 3 false false g h) i fun g h=>
 CondV g (
 RR (sOp (.indexAddr 82 (.const b) (.const a)) 0) h fun b g=>
 RR (sOp (.load 9 (.const b)) 9) g fun b g=>
 RR (ay (.func (.func 126) #[] #[]) [b]) g fun b g=>
 RR (sOp (.extract (.const b) 0) 34) g fun g h=>
 RR (sOp (.extract (.const b) 1) 4) h fun b h=>
 RR (sOp (.alloc 34) 0) h fun h i=>
 RR (sOp (.store 34 (.const h) (.const g)) 0) i fun _ g=>
 RR (sOp (.unOp .not 4 (.const b)) 4) g fun b g=>
 CondV b (
 RR (aR 23 0 []) g fun a b=>
 R (.returned (.tuple #[a,(.bool false)])) b) (
 RR (sOp (.load 34 (.const h)) 34) g fun b g=>
 RR (aR 23 1 [(0,b)]) g fun b g=>
 RR (aA .append #[23,23] 23 [false,false] [e,b]) g fun b g=>
 RR (au .add 3 false true a (.int .i64 1)) g fun g h=>
 c g b h/\d g b h<d a e f)) (
 R (.returned (.tuple #[e,(.bool true)])) h))))
theorem kH {p0:Value} {w:World} {R:Ending->World->Prop} (h:i5 p0 w R):Calls Tryz.prog 72 #[p0] w R:=
  aL (.seq none .leaf (.seq none .leaf (.seq none .leaf (.seq none (.seq (some [23]) .leaf .leaf) (.seq none (.seq none .leaf (.one (.loop [6,4] .leaf))) .leaf))))) [p0] bl Tryz.func72 (by kernel_rfl) (by kernel_rfl) h


/- loop.example/prologserver/spec.l3Shift : function 80 -/
def ol (p0 p1:Value) (w:World) (R:Ending->World->Prop):Prop:=
 RR (sOp (.box 32 (.const p0)) 0) w fun a b=>
 RR (sOp (.alloc 32) 0) b fun b c=>
 RR (sOp (.fieldAddr 32 (.const a) 0) 0) c fun c d=>
 RR (sOp (.load 3 (.const c)) 3) d fun c d=>
 RR (sOp (.fieldAddr 32 (.const a) 1) 0) d fun d e=>
 RR (sOp (.load 3 (.const d)) 3) e fun d e=>
 RR (sOp (.fieldAddr 32 (.const a) 2) 0) e fun e f=>
 RR (sOp (.load 9 (.const e)) 9) f fun e f=>
 RR (cg 32 [(0,c),(1,d),(2,e)]) f fun c d=>
 RR (sOp (.alloc 32) 0) d fun d e=>
 RR (sOp (.store 32 (.const d) (.const c)) 0) e fun _ c=>
 (∃ e:World->Prop,(
 RR (sOp (.fieldAddr 32 (.const a) 0) 0) c fun b c=>
 RR (sOp (.load 3 (.const b)) 3) c fun b c=>
 RR (au .eql 3 false true b (.int .i64 1)) c fun b c=>
 CondV b (
 RR (sOp (.fieldAddr 32 (.const a) 1) 0) c fun a b=>
 RR (sOp (.load 3 (.const a)) 3) b fun a b=>
 RR (au .add 3 false false a p1) b fun a b=>
 RR (sOp (.fieldAddr 32 (.const d) 1) 0) b fun b c=>
 RR (sOp (.store 3 (.const b) (.const a)) 0) c fun _ a=>
 e a) (
 e c))/\
 ∀ _ _ _ _ _ _ _ _:Value,∀ c:World,e c->
 (∃ (e:Value->World->Prop) (f:Value->World->Nat),e (.int .i64 0) c/\
 ∀ c _ _ g h i j k l m n o p q r _ _ _ _ _:Value,∀ s:World,e c s->
 RR (sOp (.fieldAddr 32 (.const a) 3) 0) s fun t u=>
 RR (sOp (.load 30 (.const t)) 30) u fun t u=>
 RR (aA .len #[30] 3 [false] [t]) u fun t u=>
 RR (au .lss 3 false false c t) u fun t u=>
 CondV t (
 (∃ b:(Nat->Bool)->Value->Value->Value->Value->Value->Value->Value->Value->Value->Value->Value->Value->World->Prop,b (fun _=>false) g h i j k l m n o p q r { u with drawn:=u.drawn+1 }/\(
 (∀ a:Nat->Bool,a 0=false->∀ c e f g h i j k l m n o p,b a c e f g h i j k l m n o p->
 RR (sOp (.fieldAddr 32 (.const d) 3) 0) p fun d o=>
 b (av a 0) c e f g h i j k l m n d o)/\
 (∀ a:Nat->Bool,a 1=false->a 0=true->∀ c d e f g h i j k l m n o,b a c d e f g h i j k l m n o->
 RR (sOp (.load 30 (.const n)) 30) o fun m o=>
 b (av a 1) c d e f g h i j k l m n o)/\
 (∀ c:Nat->Bool,c 2=false->∀ d e f g h i j k l m n o p,b c d e f g h i j k l m n o p->
 RR (sOp (.fieldAddr 32 (.const a) 3) 0) p fun a m=>
 b (av c 2) d e f g h i j k l a n o m)/\
 (∀ a:Nat->Bool,a 3=false->a 2=true->∀ c d e f g h i j k l m n o,b a c d e f g h i j k l m n o->
 RR (sOp (.load 30 (.const l)) 30) o fun k o=>
 b (av a 3) c d e f g h i j k l m n o)/\
 (∀ a:Nat->Bool,a 4=false->∀ d e f g h i j k l m n o p,b a d e f g h i j k l m n o p->
 b (av a 4) d e f g h i j c l m n o p)/\
 (∀ a:Nat->Bool,a 5=false->a 3=true->a 4=true->∀ c d e f g h i j k l m n o,b a c d e f g h i j k l m n o->
 RR (sOp (.indexAddr 30 (.const k) (.const j)) 0) o fun i o=>
 b (av a 5) c d e f g h i j k l m n o)/\
 (∀ a:Nat->Bool,a 6=false->a 5=true->∀ c d e f g h i j k l m n o,b a c d e f g h i j k l m n o->
 RR (sOp (.load 32 (.const i)) 32) o fun h o=>
 b (av a 6) c d e f g h i j k l m n o)/\
 (∀ a:Nat->Bool,a 7=false->∀ c d e f g h i j k l m n o,b a c d e f g h i j k l m n o->
 b (av a 7) c d e f p1 h i j k l m n o)/\
 (∀ a:Nat->Bool,a 8=false->a 6=true->a 7=true->∀ c d e f g h i j k l m n o,b a c d e f g h i j k l m n o->
 RR (ay (.func (.func 80) #[] #[]) [h,g]) o fun f o=>
 b (av a 8) c d e f g h i j k l m n o)/\
 (∀ a:Nat->Bool,a 9=false->a 8=true->∀ c d e f g h i j k l m n o,b a c d e f g h i j k l m n o->
 RR (aR 30 1 [(0,f)]) o fun e o=>
 b (av a 9) c d e f g h i j k l m n o)/\
 (∀ a:Nat->Bool,a 10=false->a 1=true->a 9=true->a 8=true->∀ c d e f g h i j k l m n o,b a c d e f g h i j k l m n o->
 RR (aA .append #[30,30] 30 [false,false] [m,e]) o fun d o=>
 b (av a 10) c d e f g h i j k l m n o)/\
 (∀ a:Nat->Bool,a 11=false->a 0=true->a 1=true->a 2=true->a 3=true->a 4=true->a 5=true->a 6=true->a 7=true->a 8=true->a 9=true->a 10=true->∀ c e f g h i j k l m n o p,b a c e f g h i j k l m n o p->
 RR (sOp (.fieldAddr 32 (.const d) 3) 0) p fun c d=>
 b (av a 11) c e f g h i j k l m n o d)/\
 (∀ a:Nat->Bool,a 12=false->a 11=true->a 10=true->a 10=true->a 0=true->a 1=true->a 2=true->a 3=true->a 4=true->a 5=true->a 6=true->a 7=true->a 8=true->a 9=true->a 10=true->∀ c d e f g h i j k l m n o,b a c d e f g h i j k l m n o->
 RR (sOp (.store 30 (.const c) (.const d)) 0) o fun _ o=>
 b (av a 12) c d e f g h i j k l m n o)/\
 True)/\
 ∀ a:Nat->Bool,a 12=true->a 11=true->a 10=true->a 9=true->a 8=true->a 7=true->a 6=true->a 5=true->a 4=true->a 3=true->a 2=true->a 1=true->a 0=true->∀ d g h i j k l m n o p q r,b a d g h i j k l m n o p q r->
 RR (au .add 3 false true c (.int .i64 1)) r fun a b=>
 e a b/\f a b<f c s)) (
 RR (sOp (.load 32 (.const d)) 32) u fun a c=>
 RR (sOp (.store 32 (.const b) (.const a)) 0) c fun _ a=>
 (ba Tryz.prog 32 b a fun b=>R (.returned b) a))))
theorem sb {p0 p1:Value} {w:World} {R:Ending->World->Prop} (h:ol p0 p1 w R):Calls Tryz.prog 80 #[p0,p1] w R:=
  aL (.seq none .leaf (.seq none .leaf (.seq (some []) .leaf (.seq none (.seq none .leaf (.one (.loop [6] .leaf))) .leaf)))) [p0,p1] bl Tryz.func80 (by kernel_rfl) (by kernel_rfl) h


/- loop.example/prologserver/impl.ownClause : function 81 -/
def kU (p0:Value) (w:World) (R:Ending->World->Prop):Prop:=
 RR (sOp (.box 34 (.const p0)) 0) w fun a b=>
 RR (sOp (.alloc 34) 0) b fun b c=>
 (∃ d:(Nat->Bool)->Value->Value->Value->Value->Value->Value->Value->World->Prop,d (fun _=>false) undef undef undef undef undef undef undef { c with drawn:=c.drawn+1 }/\(
 (∀ b:Nat->Bool,b 0=false->∀ c e f g h i j k,d b c e f g h i j k->
 RR (sOp (.fieldAddr 34 (.const a) 0) 0) k fun a j=>
 d (av b 0) c e f g h i a j)/\
 (∀ a:Nat->Bool,a 1=false->a 0=true->∀ b c e f g h i j,d a b c e f g h i j->
 RR (sOp (.load 32 (.const i)) 32) j fun h j=>
 d (av a 1) b c e f g h i j)/\
 (∀ a:Nat->Bool,a 2=false->a 1=true->∀ b c e f g h i j,d a b c e f g h i j->
 RR (ay (.func (.func 89) #[] #[]) [h]) j fun g j=>
 d (av a 2) b c e f g h i j)/\
 (∀ b:Nat->Bool,b 3=false->∀ c e f g h i j k,d b c e f g h i j k->
 RR (sOp (.fieldAddr 34 (.const a) 1) 0) k fun a g=>
 d (av b 3) c e f a h i j g)/\
 (∀ a:Nat->Bool,a 4=false->a 3=true->∀ b c e f g h i j,d a b c e f g h i j->
 RR (sOp (.load 30 (.const f)) 30) j fun e j=>
 d (av a 4) b c e f g h i j)/\
 (∀ a:Nat->Bool,a 5=false->a 4=true->a 2=true->∀ b c e f g h i j,d a b c e f g h i j->
 RR (ay (.func (.func 128) #[] #[]) [e]) j fun c j=>
 d (av a 5) b c e f g h i j)/\
 (∀ a:Nat->Bool,a 6=false->a 2=true->a 5=true->∀ b c e f g h i j,d a b c e f g h i j->
 RR (cg 34 [(0,g),(1,c)]) j fun b j=>
 d (av a 6) b c e f g h i j)/\
 (∀ a:Nat->Bool,a 7=false->a 6=true->a 5=true->a 0=true->a 1=true->a 2=true->a 3=true->a 4=true->a 5=true->a 6=true->∀ c e f g h i j k,d a c e f g h i j k->
 RR (sOp (.store 34 (.const b) (.const c)) 0) k fun _ b=>
 d (av a 7) c e f g h i j b)/\
 True)/\
 ∀ a:Nat->Bool,a 7=true->a 6=true->a 5=true->a 4=true->a 3=true->a 2=true->a 1=true->a 0=true->∀ c e f g h i j k,d a c e f g h i j k->
 (ba Tryz.prog 34 b k fun a=>R (.returned a) k))
theorem nI {p0:Value} {w:World} {R:Ending->World->Prop} (h:kU p0 w R):Calls Tryz.prog 81 #[p0] w R:=
  aL .leaf [p0] bl Tryz.func81 (by kernel_rfl) (by kernel_rfl) h


/- loop.example/prologserver/impl.numbered : function 82 -/
def mn (p0:Value) (w:World) (R:Ending->World->Prop):Prop:=
 RR (sOp (.box 34 (.const p0)) 0) w fun a b=>
 RR (sOp (.alloc 34) 0) b fun b c=>
 RR (sOp (.fieldAddr 34 (.const a) 0) 0) c fun c d=>
 RR (sOp (.load 32 (.const c)) 32) d fun c d=>
 RR (aR 30 1 [(0,c)]) d fun c d=>
 RR (sOp (.fieldAddr 34 (.const a) 1) 0) d fun a d=>
 RR (sOp (.load 30 (.const a)) 30) d fun a d=>
 RR (aA .append #[30,30] 30 [false,false] [c,a]) d fun a c=>
 RR (ay (.func (.func 86) #[] #[]) [a]) c fun a c=>
 (∃ d:(Nat->Bool)->Value->Value->Value->Value->Value->Value->Value->World->Prop,d (fun _=>false) undef undef undef undef undef undef undef { c with drawn:=c.drawn+1 }/\(
 (∀ b:Nat->Bool,b 0=false->∀ c e f g h i j k,d b c e f g h i j k->
 d (av b 0) c e f g h i a k)/\
 (∀ a:Nat->Bool,a 1=false->a 0=true->∀ b c e f g h i j,d a b c e f g h i j->
 RR (sOp (.indexAddr 30 (.const i) (.const (.int .i64 0))) 0) j fun h j=>
 d (av a 1) b c e f g h i j)/\
 (∀ a:Nat->Bool,a 2=false->a 1=true->∀ b c e f g h i j,d a b c e f g h i j->
 RR (sOp (.load 32 (.const h)) 32) j fun g j=>
 d (av a 2) b c e f g h i j)/\
 (∀ b:Nat->Bool,b 3=false->∀ c e f g h i j k,d b c e f g h i j k->
 d (av b 3) c e f a h i j k)/\
 (∀ a:Nat->Bool,a 4=false->a 3=true->∀ b c e f g h i j,d a b c e f g h i j->
 RR (sOp (.slice 30 (.const f) (some (.const (.int .i64 1))) none none) 30) j fun e j=>
 d (av a 4) b c e f g h i j)/\
 (∀ a:Nat->Bool,a 5=false->a 4=true->∀ b c e f g h i j,d a b c e f g h i j->
 RR (ay (.func (.func 129) #[] #[]) [e]) j fun c j=>
 d (av a 5) b c e f g h i j)/\
 (∀ a:Nat->Bool,a 6=false->a 2=true->a 5=true->∀ b c e f g h i j,d a b c e f g h i j->
 RR (cg 34 [(0,g),(1,c)]) j fun b j=>
 d (av a 6) b c e f g h i j)/\
 (∀ a:Nat->Bool,a 7=false->a 6=true->a 5=true->a 0=true->a 1=true->a 2=true->a 3=true->a 4=true->a 5=true->a 6=true->∀ c e f g h i j k,d a c e f g h i j k->
 RR (sOp (.store 34 (.const b) (.const c)) 0) k fun _ b=>
 d (av a 7) c e f g h i j b)/\
 True)/\
 ∀ a:Nat->Bool,a 7=true->a 6=true->a 5=true->a 4=true->a 3=true->a 2=true->a 1=true->a 0=true->∀ c e f g h i j k,d a c e f g h i j k->
 (ba Tryz.prog 34 b k fun a=>R (.returned a) k))
theorem p8 {p0:Value} {w:World} {R:Ending->World->Prop} (h:mn p0 w R):Calls Tryz.prog 82 #[p0] w R:=
  aL .leaf [p0] bl Tryz.func82 (by kernel_rfl) (by kernel_rfl) h


/- loop.example/prologserver/spec.l4Renumber : function 83 -/
def kx (p0:Value) (w:World) (R:Ending->World->Prop):Prop:=
 RR (sOp (.box 34 (.const p0)) 0) w fun a b=>
 RR (sOp (.alloc 34) 0) b fun b c=>
 RR (sOp (.fieldAddr 34 (.const a) 0) 0) c fun c d=>
 RR (sOp (.load 32 (.const c)) 32) d fun c d=>
 RR (aR 30 1 [(0,c)]) d fun c d=>
 RR (sOp (.fieldAddr 34 (.const a) 1) 0) d fun d e=>
 RR (sOp (.load 30 (.const d)) 30) e fun d e=>
 RR (aA .append #[30,30] 30 [false,false] [c,d]) e fun c d=>
 RR (ay (.func (.func 130) #[] #[]) [c]) d fun c d=>
 RR (sOp (.indexAddr 30 (.const c) (.const (.int .i64 0))) 0) d fun d e=>
 RR (sOp (.load 32 (.const d)) 32) e fun d e=>
 RR (cg 34 [(0,d)]) e fun d e=>
 RR (sOp (.alloc 34) 0) e fun e f=>
 RR (sOp (.store 34 (.const e) (.const d)) 0) f fun _ d=>
 (∃ f:World->Prop,(
 RR (sOp (.fieldAddr 34 (.const a) 1) 0) d fun a b=>
 RR (sOp (.load 30 (.const a)) 30) b fun a b=>
 RR (aA .len #[30] 3 [false] [a]) b fun a b=>
 RR (au .gtr 3 false true a (.int .i64 0)) b fun a b=>
 CondV a (
 RR (sOp (.slice 30 (.const c) (some (.const (.int .i64 1))) none none) 30) b fun a b=>
 RR (sOp (.fieldAddr 34 (.const e) 1) 0) b fun b c=>
 RR (sOp (.store 30 (.const b) (.const a)) 0) c fun _ a=>
 f a) (
 f b))/\
 ∀ _ _ _ _ _ _ _:Value,∀ a:World,f a->
 RR (sOp (.load 34 (.const e)) 34) a fun a c=>
 RR (sOp (.store 34 (.const b) (.const a)) 0) c fun _ a=>
 (ba Tryz.prog 34 b a fun b=>R (.returned b) a))
theorem nh {p0:Value} {w:World} {R:Ending->World->Prop} (h:kx p0 w R):Calls Tryz.prog 83 #[p0] w R:=
  aL (.seq none .leaf (.seq none .leaf (.seq none .leaf (.seq (some []) .leaf .leaf)))) [p0] bl Tryz.func83 (by kernel_rfl) (by kernel_rfl) h


/- loop.example/prologserver/impl.TermSame : function 84 -/
def ml (p0 p1:Value) (w:World) (R:Ending->World->Prop):Prop:=
 RR (sOp (.box 32 (.const p0)) 0) w fun a b=>
 RR (sOp (.box 32 (.const p1)) 0) b fun b c=>
 RR (sOp (.fieldAddr 32 (.const a) 0) 0) c fun c d=>
 RR (sOp (.load 3 (.const c)) 3) d fun c d=>
 RR (sOp (.fieldAddr 32 (.const b) 0) 0) d fun d e=>
 RR (sOp (.load 3 (.const d)) 3) e fun d e=>
 RR (au .eql 3 false false c d) e fun c d=>
 ((fun e:VW=>ah c true (
 RR (sOp (.fieldAddr 32 (.const a) 1) 0) d fun a d=>
 RR (sOp (.load 3 (.const a)) 3) d fun a d=>
 RR (sOp (.fieldAddr 32 (.const b) 1) 0) d fun b d=>
 RR (sOp (.load 3 (.const b)) 3) d fun b d=>
 RR (au .eql 3 false false a b) d fun a b=>
 RR (sOp (.pick (.const c) (.const a) (.const (.bool false))) 4) b fun a b=>e a b) (
 RR (sOp (.pick (.const c) (.const undef) (.const (.bool false))) 4) d fun a b=>e a b)) fun c d=>
 ((fun e:VW=>ah c true (
 RR (sOp (.fieldAddr 32 (.const a) 2) 0) d fun a d=>
 RR (sOp (.load 9 (.const a)) 9) d fun a d=>
 RR (sOp (.fieldAddr 32 (.const b) 2) 0) d fun b d=>
 RR (sOp (.load 9 (.const b)) 9) d fun b d=>
 RR (au .eql 9 false false a b) d fun a b=>
 RR (sOp (.pick (.const c) (.const a) (.const (.bool false))) 4) b fun a b=>e a b) (
 RR (sOp (.pick (.const c) (.const undef) (.const (.bool false))) 4) d fun a b=>e a b)) fun c d=>
 ah c true (
 RR (sOp (.fieldAddr 32 (.const a) 3) 0) d fun a d=>
 RR (sOp (.load 30 (.const a)) 30) d fun a d=>
 RR (sOp (.fieldAddr 32 (.const b) 3) 0) d fun b d=>
 RR (sOp (.load 30 (.const b)) 30) d fun b d=>
 RR (ay (.func (.func 85) #[] #[]) [a,b,(.func (.func 84) #[] #[])]) d fun a b=>
 RR (sOp (.pick (.const c) (.const a) (.const (.bool false))) 4) b fun a b=>
 R (.returned a) b) (
 RR (sOp (.pick (.const c) (.const undef) (.const (.bool false))) 4) d fun a b=>
 R (.returned a) b)))
theorem pR {p0 p1:Value} {w:World} {R:Ending->World->Prop} (h:ml p0 p1 w R):Calls Tryz.prog 84 #[p0,p1] w R:=
  aL .leaf [p0,p1] bl Tryz.func84 (by kernel_rfl) (by kernel_rfl) h


/- slices.EqualFunc[[]loop.example/prologserver/impl.Term,[]loop.example/prologserver/impl.Term,loop.example/prologserver/impl.Term,loop.example/prologserver/impl.Term] : function 85 -/
def gJ (p0 p1 p2:Value) (w:World) (R:Ending->World->Prop):Prop:=
 RR (aA .len #[30] 3 [false] [p0]) w fun a b=>
 RR (aA .len #[30] 3 [false] [p1]) b fun b c=>
 RR (au .neq 3 false false a b) c fun a b=>
 CondV a (
 R (.returned (.bool false)) b) (
 RR (aA .len #[30] 3 [false] [p0]) b fun a b=>
 (∃ (c:Value->World->Prop) (d:Value->World->Nat),c (.int .i64 0) b/\
 ∀ b _ _ _ _ _ _ _ _ _ _ _ _ _ _ _ _ _ _:Value,∀ e:World,c b e->
 RR (au .lss 3 false false b a) e fun a f=>
 CondV a (
 RR (sOp (.indexAddr 30 (.const p0) (.const b)) 0) f fun a f=>
 RR (sOp (.load 32 (.const a)) 32) f fun a f=>
 RR (sOp (.alloc 32) 0) f fun f g=>
 RR (sOp (.store 32 (.const f) (.const a)) 0) g fun _ a=>
 RR (sOp (.indexAddr 30 (.const p1) (.const b)) 0) a fun a g=>
 RR (sOp (.load 32 (.const a)) 32) g fun a g=>
 RR (sOp (.alloc 32) 0) g fun g h=>
 RR (sOp (.store 32 (.const g) (.const a)) 0) h fun _ a=>
 RR (sOp (.load 32 (.const f)) 32) a fun a f=>
 RR (sOp (.load 32 (.const g)) 32) f fun f g=>
 RR (ay p2 [a,f]) g fun a f=>
 RR (sOp (.unOp .not 4 (.const a)) 4) f fun a f=>
 CondV a (
 R (.returned (.bool false)) f) (
 RR (au .add 3 false true b (.int .i64 1)) f fun a f=>
 c a f/\d a f<d b e)) (
 R (.returned (.bool true)) f)))
theorem jY {p0 p1 p2:Value} {w:World} {R:Ending->World->Prop} (h:gJ p0 p1 p2 w R):Calls Tryz.prog 85 #[p0,p1,p2] w R:=
  aL (.seq none .leaf (.seq none .leaf (.seq none (.seq none .leaf (.one (.loop [17] .leaf))) .leaf))) [p0,p1,p2] bl Tryz.func85 (by kernel_rfl) (by kernel_rfl) h


/- loop.example/prologserver/impl.renumbered : function 86 -/
def kq (p0:Value) (w:World) (R:Ending->World->Prop):Prop:=
 RR (ay (.func (.func 131) #[] #[]) [p0]) w fun a b=>
 RR (sOp (.alloc 63) 0) b fun b c=>
 RR (sOp (.store 63 (.const b) (.const a)) 0) c fun _ a=>
 RR (aA .len #[30] 3 [false] [p0]) a fun a c=>
 (∃ (d:Value->Value->World->Prop) (e:Value->Value->World->Nat),d (.int .i64 0) (Value.slice none 0 0) c/\
 ∀ c _ f _ _ _ _ _ _ _ _ _ _:Value,∀ g:World,d c f g->
 RR (au .lss 3 false false c a) g fun a h=>
 CondV a (
 RR (sOp (.indexAddr 30 (.const p0) (.const c)) 0) h fun a h=>
 RR (sOp (.load 32 (.const a)) 32) h fun a h=>
 RR (sOp (.alloc 32) 0) h fun h i=>
 RR (sOp (.store 32 (.const h) (.const a)) 0) i fun _ a=>
 RR (sOp (.load 32 (.const h)) 32) a fun a h=>
 RR (il (.func 133) [] [b]) h fun b h=>
 RR (ay (.func (.func 132) #[] #[]) [a,b]) h fun a b=>
 RR (aR 30 1 [(0,a)]) b fun a b=>
 RR (aA .append #[30,30] 30 [false,false] [f,a]) b fun a b=>
 RR (au .add 3 false true c (.int .i64 1)) b fun b h=>
 d b a h/\e b a h<e c f g) (
 R (.returned f) h))
theorem mR {p0:Value} {w:World} {R:Ending->World->Prop} (h:kq p0 w R):Calls Tryz.prog 86 #[p0] w R:=
  aL (.seq none .leaf (.seq none .leaf (.seq none .leaf (.seq none (.seq none .leaf (.one (.loop [11,4] .leaf))) .leaf)))) [p0] bl Tryz.func86 (by kernel_rfl) (by kernel_rfl) h


/- loop.example/prologserver/impl.own : function 89 -/
def y7 (p0:Value) (w:World) (R:Ending->World->Prop):Prop:=
 RR (sOp (.box 32 (.const p0)) 0) w fun a b=>
 RR (sOp (.alloc 32) 0) b fun b c=>
 RR (sOp (.fieldAddr 32 (.const a) 3) 0) c fun c d=>
 RR (sOp (.load 30 (.const c)) 30) d fun c d=>
 RR (ay (.func (.func 128) #[] #[]) [c]) d fun c d=>
 RR (sOp (.fieldAddr 32 (.const a) 3) 0) d fun d e=>
 RR (sOp (.store 30 (.const d) (.const c)) 0) e fun _ c=>
 RR (sOp (.load 32 (.const a)) 32) c fun a c=>
 RR (sOp (.store 32 (.const b) (.const a)) 0) c fun _ a=>
 (ba Tryz.prog 32 b a fun b=>R (.returned b) a)
theorem yu {p0:Value} {w:World} {R:Ending->World->Prop} (h:y7 p0 w R):Calls Tryz.prog 89 #[p0] w R:=
  aL .leaf [p0] bl Tryz.func89 (by kernel_rfl) (by kernel_rfl) h


/- loop.example/prologserver/spec.l4Program : function 91 -/
def kY (p0:Value) (w:World) (R:Ending->World->Prop):Prop:=
 RR (ay (.func (.func 136) #[] #[]) []) w fun a b=>
 RR (aA .len #[82] 3 [false] [a]) b fun b c=>
 RR (ay (.func (.func 61) #[] #[]) [p0,b]) c fun b c=>
 RR (sOp (.indexAddr 82 (.const a) (.const b)) 0) c fun a b=>
 RR (sOp (.load 9 (.const a)) 9) b fun a b=>
 RR (ay (.func (.func 72) #[] #[]) [a]) b fun a b=>
 RR (sOp (.extract (.const a) 0) 23) b fun b c=>
 RR (sOp (.extract (.const a) 1) 4) c fun _ a=>
 R (.returned b) a
theorem ph {p0:Value} {w:World} {R:Ending->World->Prop} (h:kY p0 w R):Calls Tryz.prog 91 #[p0] w R:=
  aL .leaf [p0] bl Tryz.func91 (by kernel_rfl) (by kernel_rfl) h


/- loop.example/prologserver/impl.within : function 96 -/
def rI (p0 p1 p2:Value) (w:World) (R:Ending->World->Prop):Prop:=
 RR (au .leq 3 false false p1 p0) w fun a b=>
 ah a true (
 RR (au .leq 3 false false p0 p2) b fun b c=>
 RR (sOp (.pick (.const a) (.const b) (.const (.bool false))) 4) c fun a b=>
 R (.returned a) b) (
 RR (sOp (.pick (.const a) (.const undef) (.const (.bool false))) 4) b fun a b=>
 R (.returned a) b)
theorem ue {p0 p1 p2:Value} {w:World} {R:Ending->World->Prop} (h:rI p0 p1 p2 w R):Calls Tryz.prog 96 #[p0,p1,p2] w R:=
  aL .leaf [p0,p1,p2] bl Tryz.func96 (by kernel_rfl) (by kernel_rfl) h


/- slices.Contains[[]int,int] : function 99 -/
def i4 (p0 p1:Value) (w:World) (R:Ending->World->Prop):Prop:=
 RR (ay (.func (.func 135) #[] #[]) [p0,p1]) w fun a b=>
 RR (au .geq 3 false true a (.int .i64 0)) b fun a b=>
 R (.returned a) b
theorem lN {p0 p1:Value} {w:World} {R:Ending->World->Prop} (h:i4 p0 p1 w R):Calls Tryz.prog 99 #[p0,p1] w R:=
  aL .leaf [p0,p1] bl Tryz.func99 (by kernel_rfl) (by kernel_rfl) h


/- loop.example/prologserver/spec.l1Struct : function 106 -/
def my (p0 p1:Value) (w:World) (R:Ending->World->Prop):Prop:=
 RR (sOp (.alloc 32) 0) w fun a b=>
 RR (aR 30 0 []) b fun b c=>
 RR (aA .append #[30,30] 30 [false,false] [b,p1]) c fun b c=>
 RR (cg 32 [(0,(.int .i64 3)),(2,p0),(3,b)]) c fun b c=>
 RR (sOp (.store 32 (.const a) (.const b)) 0) c fun _ b=>
 (ba Tryz.prog 32 a b fun a=>R (.returned a) b)
theorem pT {p0 p1:Value} {w:World} {R:Ending->World->Prop} (h:my p0 p1 w R):Calls Tryz.prog 106 #[p0,p1] w R:=
  aL .leaf [p0,p1] bl Tryz.func106 (by kernel_rfl) (by kernel_rfl) h


/- (*loop.example/prologserver/spec.l18Rd).of : function 109 -/
def mB (p0 p1:Value) (w:World) (R:Ending->World->Prop):Prop:=
 RR (aA .len #[82] 3 [false] [p1]) w fun a b=>
 RR (ay (.func (.func 61) #[] #[]) [p0,a]) b fun a b=>
 RR (sOp (.indexAddr 82 (.const p1) (.const a)) 0) b fun a b=>
 RR (sOp (.load 9 (.const a)) 9) b fun a b=>
 R (.returned a) b
theorem qc {p0 p1:Value} {w:World} {R:Ending->World->Prop} (h:mB p0 p1 w R):Calls Tryz.prog 109 #[p0,p1] w R:=
  aL .leaf [p0,p1] bl Tryz.func109 (by kernel_rfl) (by kernel_rfl) h


/- loop.example/prologserver/spec.l1Draw : function 110 -/
def qE (p0 p1:Value) (w:World) (R:Ending->World->Prop):Prop:=
 RR (sOp (.alloc 32) 0) w fun a b=>
 (∃ c:Value->World->Prop,(
 RR (au .lss 3 false true p1 (.int .i64 2)) b fun a b=>
 ah a false (
 RR (ay (.func (.func 61) #[] #[]) [p0,(.int .i64 4)]) b fun b d=>
 RR (au .eql 3 false true b (.int .i64 0)) d fun b d=>
 RR (sOp (.pick (.const a) (.const (.bool true)) (.const b)) 4) d fun a b=>
 c a b) (
 RR (sOp (.pick (.const a) (.const (.bool true)) (.const undef)) 4) b fun a b=>
 c a b))/\
 ∀ b _ _ _ _ _ _:Value,∀ d:World,c b d->
 CondV b (
 RR (ay (.func (.func 61) #[] #[]) [p0,(.int .i64 4)]) d fun b c=>
 RR (au .eql 3 false true b (.int .i64 0)) c fun c d=>
 CondV c (
 RR (ay (.func (.func 61) #[] #[]) [p0,(.int .i64 4)]) d fun b c=>
 RR (ay (.func (.func 148) #[] #[]) [b]) c fun b c=>
 RR (sOp (.store 32 (.const a) (.const b)) 0) c fun _ b=>
 (ba Tryz.prog 32 a b fun a=>R (.returned a) b)) (
 RR (au .eql 3 false true b (.int .i64 1)) d fun b c=>
 CondV b (
 RR (aR 63 6 [(0,(.int .i64 0)),(1,(.int .i64 1)),(2,(.int .i64 7)),(3,(.int .i64 (-3))),(4,(.int .i64 999)),(5,(.int .i64 (-999)))]) c fun b c=>
 RR (ay (.func (.func 140) #[] #[]) [p0,b]) c fun b c=>
 RR (ay (.func (.func 149) #[] #[]) [b]) c fun b c=>
 RR (sOp (.store 32 (.const a) (.const b)) 0) c fun _ b=>
 (ba Tryz.prog 32 a b fun a=>R (.returned a) b)) (
 RR (aR 82 6 [(0,(.string ⟨#[97]⟩)),(1,(.string ⟨#[98]⟩)),(2,(.string ⟨#[110,105,108]⟩)),(3,(.string ⟨#[91,93]⟩)),(4,(.string ⟨#[102,111,111]⟩)),(5,(.string ⟨#[43]⟩))]) c fun b c=>
 RR (ay (.func (.func 109) #[] #[]) [p0,b]) c fun b c=>
 RR (ay (.func (.func 106) #[] #[]) [b,(Value.slice none 0 0)]) c fun b c=>
 RR (sOp (.store 32 (.const a) (.const b)) 0) c fun _ b=>
 (ba Tryz.prog 32 a b fun a=>R (.returned a) b)))) (
 RR (ay (.func (.func 61) #[] #[]) [p0,(.int .i64 3)]) d fun b c=>
 RR (au .eql 3 false true b (.int .i64 0)) c fun b c=>
 CondV b (
 RR (au .sub 3 false true p1 (.int .i64 1)) c fun b c=>
 RR (ay (.func (.func 110) #[] #[]) [p0,b]) c fun b c=>
 RR (au .sub 3 false true p1 (.int .i64 1)) c fun c d=>
 RR (ay (.func (.func 110) #[] #[]) [p0,c]) d fun c d=>
 RR (aR 30 2 [(0,b),(1,c)]) d fun b c=>
 RR (ay (.func (.func 106) #[] #[]) [(.string ⟨#[46]⟩),b]) c fun b c=>
 RR (sOp (.store 32 (.const a) (.const b)) 0) c fun _ b=>
 (ba Tryz.prog 32 a b fun a=>R (.returned a) b)) (
 RR (aR 82 7 [(0,(.string ⟨#[102]⟩)),(1,(.string ⟨#[103]⟩)),(2,(.string ⟨#[115]⟩)),(3,(.string ⟨#[43]⟩)),(4,(.string ⟨#[61]⟩)),(5,(.string ⟨#[105,115]⟩)),(6,(.string ⟨#[102,111,111]⟩))]) c fun b c=>
 RR (ay (.func (.func 109) #[] #[]) [p0,b]) c fun b c=>
 RR (ay (.func (.func 106) #[] #[]) [b,(Value.slice none 0 0)]) c fun b c=>
 RR (sOp (.alloc 32) 0) c fun c d=>
 RR (sOp (.store 32 (.const c) (.const b)) 0) d fun _ b=>
 RR (aR 63 4 [(0,(.int .i64 2)),(1,(.int .i64 1)),(2,(.int .i64 3)),(3,(.int .i64 2))]) b fun b d=>
 RR (ay (.func (.func 140) #[] #[]) [p0,b]) d fun b d=>
 (∃ (e:Value->World->Prop) (f:Value->World->Nat),e b d/\
 ∀ b _ _ d g h i j k l m n _ _:Value,∀ o:World,e b o->
 RR (au .gtr 3 false true b (.int .i64 0)) o fun p q=>
 CondV p (
 (∃ a:(Nat->Bool)->Value->Value->Value->Value->Value->Value->Value->Value->Value->World->Prop,a (fun _=>false) d g h i j k l m n { q with drawn:=q.drawn+1 }/\(
 (∀ b:Nat->Bool,b 0=false->∀ d e f g h i j k l m,a b d e f g h i j k l m->
 RR (sOp (.fieldAddr 32 (.const c) 3) 0) m fun c l=>
 a (av b 0) d e f g h i j k c l)/\
 (∀ b:Nat->Bool,b 1=false->b 0=true->∀ c d e f g h i j k l,a b c d e f g h i j k l->
 RR (sOp (.load 30 (.const k)) 30) l fun j l=>
 a (av b 1) c d e f g h i j k l)/\
 (∀ b:Nat->Bool,b 2=false->∀ c d e f g h i j k l,a b c d e f g h i j k l->
 a (av b 2) c d e f g h p0 j k l)/\
 (∀ b:Nat->Bool,b 3=false->∀ c d e f g h i j k l,a b c d e f g h i j k l->
 a (av b 3) c d e f g p1 i j k l)/\
 (∀ b:Nat->Bool,b 4=false->b 3=true->∀ c d e f g h i j k l,a b c d e f g h i j k l->
 RR (au .sub 3 false true h (.int .i64 1)) l fun g l=>
 a (av b 4) c d e f g h i j k l)/\
 (∀ b:Nat->Bool,b 5=false->b 2=true->b 4=true->∀ c d e f g h i j k l,a b c d e f g h i j k l->
 RR (ay (.func (.func 110) #[] #[]) [i,g]) l fun f l=>
 a (av b 5) c d e f g h i j k l)/\
 (∀ b:Nat->Bool,b 6=false->b 5=true->∀ c d e f g h i j k l,a b c d e f g h i j k l->
 RR (aR 30 1 [(0,f)]) l fun e l=>
 a (av b 6) c d e f g h i j k l)/\
 (∀ b:Nat->Bool,b 7=false->b 1=true->b 6=true->b 5=true->∀ c d e f g h i j k l,a b c d e f g h i j k l->
 RR (aA .append #[30,30] 30 [false,false] [j,e]) l fun d l=>
 a (av b 7) c d e f g h i j k l)/\
 (∀ b:Nat->Bool,b 8=false->b 0=true->b 1=true->b 2=true->b 3=true->b 4=true->b 5=true->b 6=true->b 7=true->∀ d e f g h i j k l m,a b d e f g h i j k l m->
 RR (sOp (.fieldAddr 32 (.const c) 3) 0) m fun c d=>
 a (av b 8) c e f g h i j k l d)/\
 (∀ b:Nat->Bool,b 9=false->b 8=true->b 7=true->b 7=true->b 0=true->b 1=true->b 2=true->b 3=true->b 4=true->b 5=true->b 6=true->b 7=true->∀ c d e f g h i j k l,a b c d e f g h i j k l->
 RR (sOp (.store 30 (.const c) (.const d)) 0) l fun _ l=>
 a (av b 9) c d e f g h i j k l)/\
 True)/\
 ∀ c:Nat->Bool,c 9=true->c 8=true->c 7=true->c 6=true->c 5=true->c 4=true->c 3=true->c 2=true->c 1=true->c 0=true->∀ d g h i j k l m n p,a c d g h i j k l m n p->
 RR (au .sub 3 false true b (.int .i64 1)) p fun a c=>
 e a c/\f a c<f b o)) (
 RR (sOp (.load 32 (.const c)) 32) q fun b c=>
 RR (sOp (.store 32 (.const a) (.const b)) 0) c fun _ b=>
 (ba Tryz.prog 32 a b fun a=>R (.returned a) b))))))
theorem te {p0 p1:Value} {w:World} {R:Ending->World->Prop} (h:qE p0 p1 w R):Calls Tryz.prog 110 #[p0,p1] w R:=
  aL (.seq none .leaf (.seq none (.seq (some [13]) .leaf .leaf) (.seq none .leaf (.seq none .leaf (.seq none (.seq none .leaf (.one (.loop [6] .leaf))) .leaf))))) [p0,p1] bl Tryz.func110 (by kernel_rfl) (by kernel_rfl) h


/- loop.example/prologserver/spec.l4Copy : function 111 -/
def kS (p0:Value) (w:World) (R:Ending->World->Prop):Prop:=
 RR (sOp (.box 34 (.const p0)) 0) w fun a b=>
 RR (sOp (.alloc 34) 0) b fun b c=>
 RR (sOp (.fieldAddr 34 (.const a) 0) 0) c fun c d=>
 RR (sOp (.load 32 (.const c)) 32) d fun c d=>
 RR (ay (.func (.func 150) #[] #[]) [c]) d fun c d=>
 RR (cg 34 [(0,c)]) d fun c d=>
 RR (sOp (.alloc 34) 0) d fun d e=>
 RR (sOp (.store 34 (.const d) (.const c)) 0) e fun _ c=>
 (∃ (e:Value->World->Prop) (f:Value->World->Nat),e (.int .i64 0) c/\
 ∀ c _ _ g h i j k l m n o p q _ _ _ _ _:Value,∀ r:World,e c r->
 RR (sOp (.fieldAddr 34 (.const a) 1) 0) r fun s t=>
 RR (sOp (.load 30 (.const s)) 30) t fun s t=>
 RR (aA .len #[30] 3 [false] [s]) t fun s t=>
 RR (au .lss 3 false false c s) t fun s t=>
 CondV s (
 (∃ b:(Nat->Bool)->Value->Value->Value->Value->Value->Value->Value->Value->Value->Value->Value->World->Prop,b (fun _=>false) g h i j k l m n o p q { t with drawn:=t.drawn+1 }/\(
 (∀ a:Nat->Bool,a 0=false->∀ c e f g h i j k l m n o,b a c e f g h i j k l m n o->
 RR (sOp (.fieldAddr 34 (.const d) 1) 0) o fun d n=>
 b (av a 0) c e f g h i j k l m d n)/\
 (∀ a:Nat->Bool,a 1=false->a 0=true->∀ c d e f g h i j k l m n,b a c d e f g h i j k l m n->
 RR (sOp (.load 30 (.const m)) 30) n fun l n=>
 b (av a 1) c d e f g h i j k l m n)/\
 (∀ c:Nat->Bool,c 2=false->∀ d e f g h i j k l m n o,b c d e f g h i j k l m n o->
 RR (sOp (.fieldAddr 34 (.const a) 1) 0) o fun a l=>
 b (av c 2) d e f g h i j k a m n l)/\
 (∀ a:Nat->Bool,a 3=false->a 2=true->∀ c d e f g h i j k l m n,b a c d e f g h i j k l m n->
 RR (sOp (.load 30 (.const k)) 30) n fun j n=>
 b (av a 3) c d e f g h i j k l m n)/\
 (∀ a:Nat->Bool,a 4=false->∀ d e f g h i j k l m n o,b a d e f g h i j k l m n o->
 b (av a 4) d e f g h i c k l m n o)/\
 (∀ a:Nat->Bool,a 5=false->a 3=true->a 4=true->∀ c d e f g h i j k l m n,b a c d e f g h i j k l m n->
 RR (sOp (.indexAddr 30 (.const j) (.const i)) 0) n fun h n=>
 b (av a 5) c d e f g h i j k l m n)/\
 (∀ a:Nat->Bool,a 6=false->a 5=true->∀ c d e f g h i j k l m n,b a c d e f g h i j k l m n->
 RR (sOp (.load 32 (.const h)) 32) n fun g n=>
 b (av a 6) c d e f g h i j k l m n)/\
 (∀ a:Nat->Bool,a 7=false->a 6=true->∀ c d e f g h i j k l m n,b a c d e f g h i j k l m n->
 RR (ay (.func (.func 150) #[] #[]) [g]) n fun f n=>
 b (av a 7) c d e f g h i j k l m n)/\
 (∀ a:Nat->Bool,a 8=false->a 7=true->∀ c d e f g h i j k l m n,b a c d e f g h i j k l m n->
 RR (aR 30 1 [(0,f)]) n fun e n=>
 b (av a 8) c d e f g h i j k l m n)/\
 (∀ a:Nat->Bool,a 9=false->a 1=true->a 8=true->a 7=true->∀ c d e f g h i j k l m n,b a c d e f g h i j k l m n->
 RR (aA .append #[30,30] 30 [false,false] [l,e]) n fun d n=>
 b (av a 9) c d e f g h i j k l m n)/\
 (∀ a:Nat->Bool,a 10=false->a 0=true->a 1=true->a 2=true->a 3=true->a 4=true->a 5=true->a 6=true->a 7=true->a 8=true->a 9=true->∀ c e f g h i j k l m n o,b a c e f g h i j k l m n o->
 RR (sOp (.fieldAddr 34 (.const d) 1) 0) o fun c d=>
 b (av a 10) c e f g h i j k l m n d)/\
 (∀ a:Nat->Bool,a 11=false->a 10=true->a 9=true->a 9=true->a 0=true->a 1=true->a 2=true->a 3=true->a 4=true->a 5=true->a 6=true->a 7=true->a 8=true->a 9=true->∀ c d e f g h i j k l m n,b a c d e f g h i j k l m n->
 RR (sOp (.store 30 (.const c) (.const d)) 0) n fun _ n=>
 b (av a 11) c d e f g h i j k l m n)/\
 True)/\
 ∀ a:Nat->Bool,a 11=true->a 10=true->a 9=true->a 8=true->a 7=true->a 6=true->a 5=true->a 4=true->a 3=true->a 2=true->a 1=true->a 0=true->∀ d g h i j k l m n o p q,b a d g h i j k l m n o p q->
 RR (au .add 3 false true c (.int .i64 1)) q fun a b=>
 e a b/\f a b<f c r)) (
 RR (sOp (.load 34 (.const d)) 34) t fun a c=>
 RR (sOp (.store 34 (.const b) (.const a)) 0) c fun _ a=>
 (ba Tryz.prog 34 b a fun b=>R (.returned b) a)))
theorem lP {p0:Value} {w:World} {R:Ending->World->Prop} (h:kS p0 w R):Calls Tryz.prog 111 #[p0] w R:=
  aL (.seq none .leaf (.seq none .leaf (.seq none (.seq none .leaf (.one (.loop [4] .leaf))) .leaf))) [p0] bl Tryz.func111 (by kernel_rfl) (by kernel_rfl) h


/- loop.example/prologserver/spec.l1Mutate : function 112 -/
def ms (p0 p1:Value) (w:World) (R:Ending->World->Prop):Prop:=
 RR (sOp (.box 32 (.const p1)) 0) w fun a b=>
 RR (sOp (.alloc 32) 0) b fun b c=>
 RR (sOp (.load 32 (.const a)) 32) c fun a c=>
 RR (ay (.func (.func 150) #[] #[]) [a]) c fun a c=>
 RR (sOp (.alloc 32) 0) c fun c d=>
 RR (sOp (.store 32 (.const c) (.const a)) 0) d fun _ a=>
 (∃ d:World->Prop,(
 RR (ay (.func (.func 61) #[] #[]) [p0,(.int .i64 50)]) a fun a b=>
 RR (au .eql 3 false true a (.int .i64 0)) b fun b e=>
 CondV b (
 RR (aR 63 5 [(0,(.int .i64 0)),(1,(.int .i64 4)),(2,(.int .i64 1)),(3,(.int .i64 2)),(4,(.int .i64 3))]) e fun a b=>
 RR (ay (.func (.func 140) #[] #[]) [p0,a]) b fun a b=>
 RR (sOp (.fieldAddr 32 (.const c) 0) 0) b fun b c=>
 RR (sOp (.store 3 (.const b) (.const a)) 0) c fun _ a=>
 d a) (
 RR (au .eql 3 false true a (.int .i64 1)) e fun b e=>
 CondV b (
 RR (aR 63 5 [(0,(.int .i64 26)),(1,(.int .i64 1000)),(2,(.int .i64 (-1000))),(3,(.int .i64 (-1))),(4,(.int .i64 1))]) e fun a b=>
 RR (ay (.func (.func 140) #[] #[]) [p0,a]) b fun a b=>
 RR (sOp (.fieldAddr 32 (.const c) 1) 0) b fun b c=>
 RR (sOp (.store 3 (.const b) (.const a)) 0) c fun _ a=>
 d a) (
 RR (au .eql 3 false true a (.int .i64 2)) e fun b e=>
 CondV b (
 RR (aR 82 5 [(0,(.string ⟨#[]⟩)),(1,(.string ⟨#[88]⟩)),(2,(.string ⟨#[116,111,111,108,111,110,103]⟩)),(3,(.string ⟨#[195,169]⟩)),(4,(.string ⟨#[97]⟩))]) e fun a b=>
 RR (ay (.func (.func 109) #[] #[]) [p0,a]) b fun a b=>
 RR (sOp (.fieldAddr 32 (.const c) 2) 0) b fun b c=>
 RR (sOp (.store 9 (.const b) (.const a)) 0) c fun _ a=>
 d a) (
 RR (au .eql 3 false true a (.int .i64 3)) e fun b e=>
 CondV b (
 (∃ (a:World->Prop) (b:World->Nat),a e/\
 ∀ e f g h i j _ _ _ _:Value,∀ k:World,a k->
 RR (sOp (.fieldAddr 32 (.const c) 3) 0) k fun l m=>
 RR (sOp (.load 30 (.const l)) 30) m fun l m=>
 RR (aA .len #[30] 3 [false] [l]) m fun l m=>
 RR (au .leq 3 false true l (.int .i64 4)) m fun l m=>
 CondV l (
 (∃ d:(Nat->Bool)->Value->Value->Value->Value->Value->Value->World->Prop,d (fun _=>false) e f g h i j { m with drawn:=m.drawn+1 }/\(
 (∀ a:Nat->Bool,a 0=false->∀ b e f g h i j,d a b e f g h i j->
 RR (sOp (.fieldAddr 32 (.const c) 3) 0) j fun c i=>
 d (av a 0) b e f g h c i)/\
 (∀ a:Nat->Bool,a 1=false->a 0=true->∀ b c e f g h i,d a b c e f g h i->
 RR (sOp (.load 30 (.const h)) 30) i fun g i=>
 d (av a 1) b c e f g h i)/\
 (∀ a:Nat->Bool,a 2=false->∀ b c e f g h i,d a b c e f g h i->
 RR (ay (.func (.func 149) #[] #[]) [(.int .i64 1)]) i fun f i=>
 d (av a 2) b c e f g h i)/\
 (∀ a:Nat->Bool,a 3=false->a 2=true->∀ b c e f g h i,d a b c e f g h i->
 RR (aR 30 1 [(0,f)]) i fun e i=>
 d (av a 3) b c e f g h i)/\
 (∀ a:Nat->Bool,a 4=false->a 1=true->a 3=true->a 2=true->∀ b c e f g h i,d a b c e f g h i->
 RR (aA .append #[30,30] 30 [false,false] [g,e]) i fun c i=>
 d (av a 4) b c e f g h i)/\
 (∀ a:Nat->Bool,a 5=false->a 0=true->a 1=true->a 2=true->a 3=true->a 4=true->∀ b e f g h i j,d a b e f g h i j->
 RR (sOp (.fieldAddr 32 (.const c) 3) 0) j fun b c=>
 d (av a 5) b e f g h i c)/\
 (∀ a:Nat->Bool,a 6=false->a 5=true->a 4=true->a 4=true->a 0=true->a 1=true->a 2=true->a 3=true->a 4=true->∀ b c e f g h i,d a b c e f g h i->
 RR (sOp (.store 30 (.const b) (.const c)) 0) i fun _ i=>
 d (av a 6) b c e f g h i)/\
 True)/\
 ∀ c:Nat->Bool,c 6=true->c 5=true->c 4=true->c 3=true->c 2=true->c 1=true->c 0=true->∀ e f g h i j l,d c e f g h i j l->
 a l/\b l<b k)) (
 d m))) (
 RR (au .eql 3 false true a (.int .i64 4)) e fun a b=>
 CondV a (
 (∃ (a:Value->World->Prop) (e:Value->World->Nat),a (.int .i64 0) b/\
 ∀ b _ _ _ _ _ _ _:Value,∀ f:World,a b f->
 RR (au .lss 3 false true b (.int .i64 30)) f fun g h=>
 CondV g (
 RR (sOp (.load 32 (.const c)) 32) h fun d g=>
 RR (aR 30 1 [(0,d)]) g fun d g=>
 RR (ay (.func (.func 106) #[] #[]) [(.string ⟨#[115]⟩),d]) g fun d g=>
 RR (sOp (.store 32 (.const c) (.const d)) 0) g fun _ c=>
 RR (au .add 3 false true b (.int .i64 1)) c fun c d=>
 a c d/\e c d<e b f) (
 d h))) (
 d b))))))/\
 ∀ _ _ _ _ _ _ _ _ _ _ _ _ _ _ _ _ _ _ _ _ _ _ _ _ _ _ _ _ _ _ _ _ _ _ _ _ _ _ _ _ _ _:Value,∀ a:World,d a->
 RR (sOp (.load 32 (.const c)) 32) a fun a c=>
 RR (sOp (.store 32 (.const b) (.const a)) 0) c fun _ a=>
 (ba Tryz.prog 32 b a fun b=>R (.returned b) a))
theorem qh {p0 p1:Value} {w:World} {R:Ending->World->Prop} (h:ms p0 p1 w R):Calls Tryz.prog 112 #[p0,p1] w R:=
  aL (.seq none .leaf (.seq none .leaf (.seq (some []) (.seq none .leaf (.one (.seq none .leaf (.two .leaf (.seq none .leaf (.two .leaf (.seq none .leaf (.two .leaf (.seq none .leaf (.two (.one (.loop [] .leaf)) (.seq none .leaf (.two (.seq none .leaf (.one (.loop [6] .leaf))) .leaf)))))))))))) .leaf))) [p0,p1] bl Tryz.func112 (by kernel_rfl) (by kernel_rfl) h


/- loop.example/prologserver/spec.l1Some : function 113 -/
def qS (p0:Value) (w:World) (R:Ending->World->Prop):Prop:=
 RR (sOp (.alloc 32) 0) w fun a b=>
 RR (aR 63 4 [(0,(.int .i64 3)),(1,(.int .i64 2)),(2,(.int .i64 4)),(3,(.int .i64 1))]) b fun b c=>
 RR (ay (.func (.func 140) #[] #[]) [p0,b]) c fun b c=>
 RR (ay (.func (.func 110) #[] #[]) [p0,b]) c fun b c=>
 RR (sOp (.store 32 (.const a) (.const b)) 0) c fun _ b=>
 (ba Tryz.prog 32 a b fun a=>R (.returned a) b)
theorem tB {p0:Value} {w:World} {R:Ending->World->Prop} (h:qS p0 w R):Calls Tryz.prog 113 #[p0] w R:=
  aL .leaf [p0] bl Tryz.func113 (by kernel_rfl) (by kernel_rfl) h


/- loop.example/prologserver/spec.GoalValid : function 114 -/
def kK (p0:Value) (w:World) (R:Ending->World->Prop):Prop:=
 RR (sOp (.box 32 (.const p0)) 0) w fun a b=>
 RR (sOp (.load 32 (.const a)) 32) b fun b c=>
 RR (ay (.func (.func 115) #[] #[]) [b]) c fun b c=>
 ah b true (
 RR (sOp (.load 32 (.const a)) 32) c fun a c=>
 RR (ay (.func (.func 151) #[] #[]) [a]) c fun a c=>
 RR (sOp (.pick (.const b) (.const a) (.const (.bool false))) 4) c fun a b=>
 R (.returned a) b) (
 RR (sOp (.pick (.const b) (.const undef) (.const (.bool false))) 4) c fun a b=>
 R (.returned a) b)
theorem nW {p0:Value} {w:World} {R:Ending->World->Prop} (h:kK p0 w R):Calls Tryz.prog 114 #[p0] w R:=
  aL .leaf [p0] bl Tryz.func114 (by kernel_rfl) (by kernel_rfl) h


/- loop.example/prologserver/spec.TermValid : function 115 -/
def lA (p0:Value) (w:World) (R:Ending->World->Prop):Prop:=
 RR (sOp (.box 32 (.const p0)) 0) w fun a b=>
 RR (sOp (.load 32 (.const a)) 32) b fun b c=>
 RR (ay (.func (.func 152) #[] #[]) [b,(.int .i64 30)]) c fun b c=>
 ah b true (
 RR (sOp (.load 32 (.const a)) 32) c fun a c=>
 RR (ay (.func (.func 153) #[] #[]) [a,(.int .i64 120)]) c fun a c=>
 RR (au .leq 3 false true a (.int .i64 120)) c fun a c=>
 RR (sOp (.pick (.const b) (.const a) (.const (.bool false))) 4) c fun a b=>
 R (.returned a) b) (
 RR (sOp (.pick (.const b) (.const undef) (.const (.bool false))) 4) c fun a b=>
 R (.returned a) b)
theorem oy {p0:Value} {w:World} {R:Ending->World->Prop} (h:lA p0 w R):Calls Tryz.prog 115 #[p0] w R:=
  aL .leaf [p0] bl Tryz.func115 (by kernel_rfl) (by kernel_rfl) h


/- loop.example/prologserver/spec.l4Plain : function 116 -/
def nQ (p0:Value) (w:World) (R:Ending->World->Prop):Prop:=
 RR (sOp (.box 32 (.const p0)) 0) w fun a b=>
 RR (sOp (.fieldAddr 32 (.const a) 0) 0) b fun b c=>
 RR (sOp (.load 3 (.const b)) 3) c fun b c=>
 RR (au .eql 3 false true b (.int .i64 3)) c fun b c=>
 ((fun d:VW=>ah b true (
 RR (sOp (.fieldAddr 32 (.const a) 2) 0) c fun a c=>
 RR (sOp (.load 9 (.const a)) 9) c fun a c=>
 RR (ay (.func (.func 154) #[] #[]) [a]) c fun a c=>
 RR (sOp (.pick (.const b) (.const a) (.const (.bool false))) 4) c fun a b=>d a b) (
 RR (sOp (.pick (.const b) (.const undef) (.const (.bool false))) 4) c fun a b=>d a b)) fun b c=>
 ((fun d:VW=>ah b true (
 RR (sOp (.fieldAddr 32 (.const a) 2) 0) c fun c e=>
 RR (sOp (.load 9 (.const c)) 9) e fun c e=>
 RR (sOp (.fieldAddr 32 (.const a) 3) 0) e fun a e=>
 RR (sOp (.load 30 (.const a)) 30) e fun a e=>
 RR (aA .len #[30] 3 [false] [a]) e fun a e=>
 RR (ay (.func (.func 155) #[] #[]) [c,a]) e fun a c=>
 RR (sOp (.unOp .not 4 (.const a)) 4) c fun a c=>
 RR (sOp (.pick (.const b) (.const a) (.const (.bool false))) 4) c fun a b=>d a b) (
 RR (sOp (.pick (.const b) (.const undef) (.const (.bool false))) 4) c fun a b=>d a b)) fun b c=>
 ah b true (
 RR (sOp (.fieldAddr 32 (.const a) 2) 0) c fun a c=>
 RR (sOp (.load 9 (.const a)) 9) c fun a c=>
 RR (ay (.func (.func 156) #[] #[]) [a]) c fun a c=>
 RR (au .eql 3 false true a (.int .i64 0)) c fun a c=>
 RR (sOp (.pick (.const b) (.const a) (.const (.bool false))) 4) c fun a b=>
 R (.returned a) b) (
 RR (sOp (.pick (.const b) (.const undef) (.const (.bool false))) 4) c fun a b=>
 R (.returned a) b)))
theorem sn {p0:Value} {w:World} {R:Ending->World->Prop} (h:nQ p0 w R):Calls Tryz.prog 116 #[p0] w R:=
  aL .leaf [p0] bl Tryz.func116 (by kernel_rfl) (by kernel_rfl) h


/- loop.example/prologserver/impl.scan : function 118 -/
def wd (p0 p1 p2:Value) (w:World) (R:Ending->World->Prop):Prop:=
 RR (sOp (.box 32 (.const p0)) 0) w fun a b=>
 RR (sOp (.box 3 (.const p1)) 0) b fun b c=>
 RR (sOp (.box 111 (.const p2)) 0) c fun c d=>
 RR (sOp (.load 111 (.const c)) 111) d fun d e=>
 RR (sOp (.nilCheck (.const d)) 0) e fun e f=>
 RR (sOp (.load 3 (.const e)) 3) f fun e f=>
 RR (au .add 3 false true e (.int .i64 1)) f fun e f=>
 RR (sOp (.nilCheck (.const d)) 0) f fun d f=>
 RR (sOp (.store 3 (.const d) (.const e)) 0) f fun _ d=>
 (∃ e:Value->World->Prop,(
 RR (sOp (.load 111 (.const c)) 111) d fun a c=>
 RR (sOp (.nilCheck (.const a)) 0) c fun a c=>
 RR (sOp (.load 3 (.const a)) 3) c fun a c=>
 RR (au .gtr 3 false true a (.int .i64 120)) c fun a c=>
 ah a false (
 RR (sOp (.load 3 (.const b)) 3) c fun b c=>
 RR (au .gtr 3 false true b (.int .i64 30)) c fun b c=>
 RR (sOp (.pick (.const a) (.const (.bool true)) (.const b)) 4) c fun a b=>
 e a b) (
 RR (sOp (.pick (.const a) (.const (.bool true)) (.const undef)) 4) c fun a b=>
 e a b))/\
 ∀ d _ _ _ _ _ _ _:Value,∀ f:World,e d f->
 CondV d (
 R (.returned (.bool false)) f) (
 RR (sOp (.fieldAddr 32 (.const a) 0) 0) f fun d e=>
 RR (sOp (.load 3 (.const d)) 3) e fun d e=>
 RR (au .eql 3 false true d (.int .i64 1)) e fun e f=>
 CondV e (
 RR (sOp (.fieldAddr 32 (.const a) 1) 0) f fun b c=>
 RR (sOp (.load 3 (.const b)) 3) c fun b c=>
 RR (ay (.func (.func 96) #[] #[]) [b,(.int .i64 0),(.int .i64 25)]) c fun b c=>
 ((fun d:VW=>ah b true (
 RR (sOp (.fieldAddr 32 (.const a) 2) 0) c fun a c=>
 RR (sOp (.load 9 (.const a)) 9) c fun a c=>
 RR (au .eql 9 false true a (.string ⟨#[]⟩)) c fun a c=>
 RR (sOp (.pick (.const b) (.const a) (.const (.bool false))) 4) c fun a b=>d a b) (
 RR (sOp (.pick (.const b) (.const undef) (.const (.bool false))) 4) c fun a b=>d a b)) fun b c=>
 ah b true (
 RR (sOp (.fieldAddr 32 (.const a) 3) 0) c fun a c=>
 RR (sOp (.load 30 (.const a)) 30) c fun a c=>
 RR (aA .len #[30] 3 [false] [a]) c fun a c=>
 RR (au .eql 3 false true a (.int .i64 0)) c fun a c=>
 RR (sOp (.pick (.const b) (.const a) (.const (.bool false))) 4) c fun a b=>
 R (.returned a) b) (
 RR (sOp (.pick (.const b) (.const undef) (.const (.bool false))) 4) c fun a b=>
 R (.returned a) b))) (
 RR (au .eql 3 false true d (.int .i64 2)) f fun e f=>
 CondV e (
 RR (sOp (.fieldAddr 32 (.const a) 1) 0) f fun b c=>
 RR (sOp (.load 3 (.const b)) 3) c fun b c=>
 RR (ay (.func (.func 96) #[] #[]) [b,(.int .i64 (-999)),(.int .i64 999)]) c fun b c=>
 ((fun d:VW=>ah b true (
 RR (sOp (.fieldAddr 32 (.const a) 2) 0) c fun a c=>
 RR (sOp (.load 9 (.const a)) 9) c fun a c=>
 RR (au .eql 9 false true a (.string ⟨#[]⟩)) c fun a c=>
 RR (sOp (.pick (.const b) (.const a) (.const (.bool false))) 4) c fun a b=>d a b) (
 RR (sOp (.pick (.const b) (.const undef) (.const (.bool false))) 4) c fun a b=>d a b)) fun b c=>
 ah b true (
 RR (sOp (.fieldAddr 32 (.const a) 3) 0) c fun a c=>
 RR (sOp (.load 30 (.const a)) 30) c fun a c=>
 RR (aA .len #[30] 3 [false] [a]) c fun a c=>
 RR (au .eql 3 false true a (.int .i64 0)) c fun a c=>
 RR (sOp (.pick (.const b) (.const a) (.const (.bool false))) 4) c fun a b=>
 R (.returned a) b) (
 RR (sOp (.pick (.const b) (.const undef) (.const (.bool false))) 4) c fun a b=>
 R (.returned a) b))) (
 RR (au .eql 3 false true d (.int .i64 3)) f fun d e=>
 CondV d (
 (∃ d:Value->World->Prop,(
 RR (sOp (.fieldAddr 32 (.const a) 1) 0) e fun b c=>
 RR (sOp (.load 3 (.const b)) 3) c fun b c=>
 RR (au .neq 3 false true b (.int .i64 0)) c fun b c=>
 ((fun d:VW=>ah b false (
 RR (sOp (.fieldAddr 32 (.const a) 2) 0) c fun a c=>
 RR (sOp (.load 9 (.const a)) 9) c fun a c=>
 RR (ay (.func (.func 157) #[] #[]) [a]) c fun a c=>
 RR (sOp (.unOp .not 4 (.const a)) 4) c fun a c=>
 RR (sOp (.pick (.const b) (.const (.bool true)) (.const a)) 4) c fun a b=>d a b) (
 RR (sOp (.pick (.const b) (.const (.bool true)) (.const undef)) 4) c fun a b=>d a b)) fun b c=>
 ah b false (
 RR (sOp (.fieldAddr 32 (.const a) 3) 0) c fun a c=>
 RR (sOp (.load 30 (.const a)) 30) c fun a c=>
 RR (aA .len #[30] 3 [false] [a]) c fun a c=>
 RR (au .gtr 3 false true a (.int .i64 4)) c fun a c=>
 RR (sOp (.pick (.const b) (.const (.bool true)) (.const a)) 4) c fun a b=>
 d a b) (
 RR (sOp (.pick (.const b) (.const (.bool true)) (.const undef)) 4) c fun a b=>
 d a b)))/\
 ∀ e _ _ _ _ _ _ _ _ _ _ _ _ _ _:Value,∀ f:World,d e f->
 CondV e (
 R (.returned (.bool false)) f) (
 RR (sOp (.fieldAddr 32 (.const a) 3) 0) f fun a d=>
 RR (sOp (.load 30 (.const a)) 30) d fun a d=>
 RR (il (.func 158) [] [b,c]) d fun b c=>
 RR (ay (.func (.func 122) #[] #[]) [a,b]) c fun a b=>
 RR (sOp (.unOp .not 4 (.const a)) 4) b fun a b=>
 R (.returned a) b))) (
 R (.returned (.bool false)) e)))))
theorem xQ {p0 p1 p2:Value} {w:World} {R:Ending->World->Prop} (h:wd p0 p1 p2 w R):Calls Tryz.prog 118 #[p0,p1,p2] w R:=
  aL (.seq none .leaf (.seq none .leaf (.seq none (.seq (some [19]) .leaf .leaf) (.seq none (.seq none .leaf (.one (.seq none .leaf (.two .leaf (.seq none .leaf (.two .leaf (.seq none .leaf (.two (.seq none (.seq (some [70]) .leaf .leaf) .leaf) .leaf)))))))) .leaf)))) [p0,p1,p2] bl Tryz.func118 (by kernel_rfl) (by kernel_rfl) h


/- loop.example/prologserver/impl.isLetters : function 119 -/
def lM (p0:Value) (w:World) (R:Ending->World->Prop):Prop:=
 RR (aA .len #[9] 3 [false] [p0]) w fun a b=>
 (∃ (c:Value->World->Prop) (d:Value->World->Nat),c (.int .i64 0) b/\
 ∀ b _ _ _ _ _ _ _ _ _ _ _ _ _ _ _:Value,∀ e:World,c b e->
 RR (au .lss 3 false false b a) e fun a f=>
 CondV a (
 (∃ a:Value->World->Prop,(
 RR (sOp (.index 9 (.const p0) (.const b)) 5) f fun c d=>
 RR (au .lss 5 false true c (.int .u8 97)) d fun c d=>
 ah c false (
 RR (sOp (.index 9 (.const p0) (.const b)) 5) d fun b d=>
 RR (au .gtr 5 false true b (.int .u8 122)) d fun b d=>
 RR (sOp (.pick (.const c) (.const (.bool true)) (.const b)) 4) d fun b c=>
 a b c) (
 RR (sOp (.pick (.const c) (.const (.bool true)) (.const undef)) 4) d fun b c=>
 a b c))/\
 ∀ f _ _ _ _ _ _ _ _ _:Value,∀ g:World,a f g->
 CondV f (
 R (.returned (.bool false)) g) (
 RR (au .add 3 false true b (.int .i64 1)) g fun a f=>
 c a f/\d a f<d b e))) (
 RR (aA .len #[9] 3 [false] [p0]) f fun a b=>
 RR (ay (.func (.func 96) #[] #[]) [a,(.int .i64 1),(.int .i64 6)]) b fun a b=>
 R (.returned a) b))
theorem pi {p0:Value} {w:World} {R:Ending->World->Prop} (h:lM p0 w R):Calls Tryz.prog 119 #[p0] w R:=
  aL (.seq none .leaf (.seq none (.seq none .leaf (.one (.loop [6] (.seq none .leaf (.seq none .leaf (.seq none (.one (.seq none .leaf (.seq (some [18]) .leaf .leaf))) .leaf)))))) .leaf)) [p0] bl Tryz.func119 (by kernel_rfl) (by kernel_rfl) h


/- loop.example/prologserver/impl.isOp : function 120 -/
def wh (p0:Value) (w:World) (R:Ending->World->Prop):Prop:=
 RR (ay (.func (.func 159) #[] #[]) [p0]) w fun a b=>
 RR (sOp (.extract (.const a) 0) 3) b fun b c=>
 RR (sOp (.extract (.const a) 1) 4) c fun _ a=>
 RR (au .gtr 3 false true b (.int .i64 0)) a fun a b=>
 R (.returned a) b
theorem xp {p0:Value} {w:World} {R:Ending->World->Prop} (h:wh p0 w R):Calls Tryz.prog 120 #[p0] w R:=
  aL .leaf [p0] bl Tryz.func120 (by kernel_rfl) (by kernel_rfl) h


/- loop.example/prologserver/impl.isBuilt : function 121 -/
def nT (p0:Value) (w:World) (R:Ending->World->Prop):Prop:=
 RR (sOp (.box 32 (.const p0)) 0) w fun a b=>
 RR (sOp (.fieldAddr 32 (.const a) 0) 0) b fun b c=>
 RR (sOp (.load 3 (.const b)) 3) c fun b c=>
 RR (au .eql 3 false true b (.int .i64 3)) c fun b c=>
 ah b true (
 RR (sOp (.fieldAddr 32 (.const a) 2) 0) c fun c d=>
 RR (sOp (.load 9 (.const c)) 9) d fun c d=>
 RR (sOp (.fieldAddr 32 (.const a) 3) 0) d fun a d=>
 RR (sOp (.load 30 (.const a)) 30) d fun a d=>
 RR (aA .len #[30] 3 [false] [a]) d fun a d=>
 RR (ay (.func (.func 160) #[] #[]) [c,a]) d fun a c=>
 RR (sOp (.pick (.const b) (.const a) (.const (.bool false))) 4) c fun a b=>
 R (.returned a) b) (
 RR (sOp (.pick (.const b) (.const undef) (.const (.bool false))) 4) c fun a b=>
 R (.returned a) b)
theorem se {p0:Value} {w:World} {R:Ending->World->Prop} (h:nT p0 w R):Calls Tryz.prog 121 #[p0] w R:=
  aL .leaf [p0] bl Tryz.func121 (by kernel_rfl) (by kernel_rfl) h


/- slices.ContainsFunc[[]loop.example/prologserver/impl.Term,loop.example/prologserver/impl.Term] : function 122 -/
def fR (p0 p1:Value) (w:World) (R:Ending->World->Prop):Prop:=
 RR (ay (.func (.func 161) #[] #[]) [p0,p1]) w fun a b=>
 RR (au .geq 3 false true a (.int .i64 0)) b fun a b=>
 R (.returned a) b
theorem iU {p0 p1:Value} {w:World} {R:Ending->World->Prop} (h:fR p0 p1 w R):Calls Tryz.prog 122 #[p0,p1] w R:=
  aL .leaf [p0,p1] bl Tryz.func122 (by kernel_rfl) (by kernel_rfl) h


/- loop.example/prologserver/impl.goalsValid$1 : function 123 -/
def i9 (p0:Value) (w:World) (R:Ending->World->Prop):Prop:=
 RR (sOp (.box 32 (.const p0)) 0) w fun a b=>
 RR (sOp (.load 32 (.const a)) 32) b fun a b=>
 RR (ay (.func (.func 124) #[] #[]) [a]) b fun a b=>
 RR (sOp (.unOp .not 4 (.const a)) 4) b fun a b=>
 R (.returned a) b
theorem lC {p0:Value} {w:World} {R:Ending->World->Prop} (h:i9 p0 w R):Calls Tryz.prog 123 #[p0] w R:=
  aL .leaf [p0] bl Tryz.func123 (by kernel_rfl) (by kernel_rfl) h


/- loop.example/prologserver/impl.GoalValid : function 124 -/
def kV (p0:Value) (w:World) (R:Ending->World->Prop):Prop:=
 RR (sOp (.box 32 (.const p0)) 0) w fun a b=>
 RR (sOp (.load 32 (.const a)) 32) b fun b c=>
 RR (ay (.func (.func 66) #[] #[]) [b]) c fun b c=>
 ah b true (
 RR (sOp (.load 32 (.const a)) 32) c fun c d=>
 RR (ay (.func (.func 67) #[] #[]) [c]) d fun c d=>
 ah c false (
 RR (sOp (.load 32 (.const a)) 32) d fun d e=>
 RR (ay (.func (.func 121) #[] #[]) [d]) e fun d e=>
 ah b true (
 RR (sOp (.pick (.const c) (.const (.bool true)) (.const d)) 4) e fun c d=>
 ah c false (
 RR (sOp (.load 32 (.const a)) 32) d fun a d=>
 RR (ay (.func (.func 141) #[] #[]) [a]) d fun a d=>
 ah b true (
 RR (sOp (.pick (.const c) (.const (.bool true)) (.const a)) 4) d fun a c=>
 RR (sOp (.pick (.const b) (.const a) (.const (.bool false))) 4) c fun a b=>
 R (.returned a) b) (
 RR (sOp (.pick (.const b) (.const undef) (.const (.bool false))) 4) d fun a b=>
 R (.returned a) b)) (
 ah b true (
 RR (sOp (.pick (.const c) (.const (.bool true)) (.const undef)) 4) d fun a c=>
 RR (sOp (.pick (.const b) (.const a) (.const (.bool false))) 4) c fun a b=>
 R (.returned a) b) (
 RR (sOp (.pick (.const b) (.const undef) (.const (.bool false))) 4) d fun a b=>
 R (.returned a) b))) (
 ah undef false (
 RR (sOp (.load 32 (.const a)) 32) e fun a c=>
 RR (ay (.func (.func 141) #[] #[]) [a]) c fun a c=>
 ah b true (
 RR (sOp (.pick (.const undef) (.const (.bool true)) (.const a)) 4) c fun a c=>
 RR (sOp (.pick (.const b) (.const a) (.const (.bool false))) 4) c fun a b=>
 R (.returned a) b) (
 RR (sOp (.pick (.const b) (.const undef) (.const (.bool false))) 4) c fun a b=>
 R (.returned a) b)) (
 ah b true (
 RR (sOp (.pick (.const undef) (.const (.bool true)) (.const undef)) 4) e fun a c=>
 RR (sOp (.pick (.const b) (.const a) (.const (.bool false))) 4) c fun a b=>
 R (.returned a) b) (
 RR (sOp (.pick (.const b) (.const undef) (.const (.bool false))) 4) e fun a b=>
 R (.returned a) b)))) (
 ah b true (
 RR (sOp (.pick (.const c) (.const (.bool true)) (.const undef)) 4) d fun c d=>
 ah c false (
 RR (sOp (.load 32 (.const a)) 32) d fun a d=>
 RR (ay (.func (.func 141) #[] #[]) [a]) d fun a d=>
 ah b true (
 RR (sOp (.pick (.const c) (.const (.bool true)) (.const a)) 4) d fun a c=>
 RR (sOp (.pick (.const b) (.const a) (.const (.bool false))) 4) c fun a b=>
 R (.returned a) b) (
 RR (sOp (.pick (.const b) (.const undef) (.const (.bool false))) 4) d fun a b=>
 R (.returned a) b)) (
 ah b true (
 RR (sOp (.pick (.const c) (.const (.bool true)) (.const undef)) 4) d fun a c=>
 RR (sOp (.pick (.const b) (.const a) (.const (.bool false))) 4) c fun a b=>
 R (.returned a) b) (
 RR (sOp (.pick (.const b) (.const undef) (.const (.bool false))) 4) d fun a b=>
 R (.returned a) b))) (
 ah undef false (
 RR (sOp (.load 32 (.const a)) 32) d fun a c=>
 RR (ay (.func (.func 141) #[] #[]) [a]) c fun a c=>
 ah b true (
 RR (sOp (.pick (.const undef) (.const (.bool true)) (.const a)) 4) c fun a c=>
 RR (sOp (.pick (.const b) (.const a) (.const (.bool false))) 4) c fun a b=>
 R (.returned a) b) (
 RR (sOp (.pick (.const b) (.const undef) (.const (.bool false))) 4) c fun a b=>
 R (.returned a) b)) (
 ah b true (
 RR (sOp (.pick (.const undef) (.const (.bool true)) (.const undef)) 4) d fun a c=>
 RR (sOp (.pick (.const b) (.const a) (.const (.bool false))) 4) c fun a b=>
 R (.returned a) b) (
 RR (sOp (.pick (.const b) (.const undef) (.const (.bool false))) 4) d fun a b=>
 R (.returned a) b))))) (
 ah undef false (
 RR (sOp (.load 32 (.const a)) 32) c fun c d=>
 RR (ay (.func (.func 121) #[] #[]) [c]) d fun c d=>
 ah b true (
 RR (sOp (.pick (.const undef) (.const (.bool true)) (.const c)) 4) d fun c d=>
 ah c false (
 RR (sOp (.load 32 (.const a)) 32) d fun a d=>
 RR (ay (.func (.func 141) #[] #[]) [a]) d fun a d=>
 ah b true (
 RR (sOp (.pick (.const c) (.const (.bool true)) (.const a)) 4) d fun a c=>
 RR (sOp (.pick (.const b) (.const a) (.const (.bool false))) 4) c fun a b=>
 R (.returned a) b) (
 RR (sOp (.pick (.const b) (.const undef) (.const (.bool false))) 4) d fun a b=>
 R (.returned a) b)) (
 ah b true (
 RR (sOp (.pick (.const c) (.const (.bool true)) (.const undef)) 4) d fun a c=>
 RR (sOp (.pick (.const b) (.const a) (.const (.bool false))) 4) c fun a b=>
 R (.returned a) b) (
 RR (sOp (.pick (.const b) (.const undef) (.const (.bool false))) 4) d fun a b=>
 R (.returned a) b))) (
 ah undef false (
 RR (sOp (.load 32 (.const a)) 32) d fun a c=>
 RR (ay (.func (.func 141) #[] #[]) [a]) c fun a c=>
 ah b true (
 RR (sOp (.pick (.const undef) (.const (.bool true)) (.const a)) 4) c fun a c=>
 RR (sOp (.pick (.const b) (.const a) (.const (.bool false))) 4) c fun a b=>
 R (.returned a) b) (
 RR (sOp (.pick (.const b) (.const undef) (.const (.bool false))) 4) c fun a b=>
 R (.returned a) b)) (
 ah b true (
 RR (sOp (.pick (.const undef) (.const (.bool true)) (.const undef)) 4) d fun a c=>
 RR (sOp (.pick (.const b) (.const a) (.const (.bool false))) 4) c fun a b=>
 R (.returned a) b) (
 RR (sOp (.pick (.const b) (.const undef) (.const (.bool false))) 4) d fun a b=>
 R (.returned a) b)))) (
 ah b true (
 RR (sOp (.pick (.const undef) (.const (.bool true)) (.const undef)) 4) c fun c d=>
 ah c false (
 RR (sOp (.load 32 (.const a)) 32) d fun a d=>
 RR (ay (.func (.func 141) #[] #[]) [a]) d fun a d=>
 ah b true (
 RR (sOp (.pick (.const c) (.const (.bool true)) (.const a)) 4) d fun a c=>
 RR (sOp (.pick (.const b) (.const a) (.const (.bool false))) 4) c fun a b=>
 R (.returned a) b) (
 RR (sOp (.pick (.const b) (.const undef) (.const (.bool false))) 4) d fun a b=>
 R (.returned a) b)) (
 ah b true (
 RR (sOp (.pick (.const c) (.const (.bool true)) (.const undef)) 4) d fun a c=>
 RR (sOp (.pick (.const b) (.const a) (.const (.bool false))) 4) c fun a b=>
 R (.returned a) b) (
 RR (sOp (.pick (.const b) (.const undef) (.const (.bool false))) 4) d fun a b=>
 R (.returned a) b))) (
 ah undef false (
 RR (sOp (.load 32 (.const a)) 32) c fun a c=>
 RR (ay (.func (.func 141) #[] #[]) [a]) c fun a c=>
 ah b true (
 RR (sOp (.pick (.const undef) (.const (.bool true)) (.const a)) 4) c fun a c=>
 RR (sOp (.pick (.const b) (.const a) (.const (.bool false))) 4) c fun a b=>
 R (.returned a) b) (
 RR (sOp (.pick (.const b) (.const undef) (.const (.bool false))) 4) c fun a b=>
 R (.returned a) b)) (
 ah b true (
 RR (sOp (.pick (.const undef) (.const (.bool true)) (.const undef)) 4) c fun a c=>
 RR (sOp (.pick (.const b) (.const a) (.const (.bool false))) 4) c fun a b=>
 R (.returned a) b) (
 RR (sOp (.pick (.const b) (.const undef) (.const (.bool false))) 4) c fun a b=>
 R (.returned a) b)))))
theorem nU {p0:Value} {w:World} {R:Ending->World->Prop} (h:kV p0 w R):Calls Tryz.prog 124 #[p0] w R:=
  aL .leaf [p0] bl Tryz.func124 (by kernel_rfl) (by kernel_rfl) h


/- loop.example/prologserver/spec.l18Cut : function 125 -/
def rf (p0 p1:Value) (w:World) (R:Ending->World->Prop):Prop:=
 RR (aR 82 0 []) w fun a b=>
 (∃ (c:Value->Value->Value->World->Prop) (d:Value->Value->Value->World->Nat),c (.int .i64 0) (.int .i64 0) a b/\
 ∀ a _ _ b _ _ e _ _ _ _ _ _ _ _ _ _ _ _ _ _ _ _ _ _ _ _ _ _:Value,∀ f:World,c a b e f->
 RR (aA .len #[9] 3 [false] [p0]) f fun g h=>
 RR (au .leq 3 false false a g) h fun g h=>
 CondV g (
 (∃ g:Value->Value->World->Prop,(
 (∃ c:Value->World->Prop,(
 RR (aA .len #[9] 3 [false] [p0]) h fun b d=>
 RR (au .eql 3 false false a b) d fun b d=>
 ah b false (
 RR (sOp (.index 9 (.const p0) (.const a)) 5) d fun a d=>
 RR (au .eql 5 false false a p1) d fun a d=>
 RR (sOp (.pick (.const b) (.const (.bool true)) (.const a)) 4) d fun a b=>
 c a b) (
 RR (sOp (.pick (.const b) (.const (.bool true)) (.const undef)) 4) d fun a b=>
 c a b))/\
 ∀ d _ _ _ _ _ _ _ _ _ _:Value,∀ f:World,c d f->
 CondV d (
 RR (sOp (.slice 9 (.const p0) (some (.const b)) (some (.const a)) none) 9) f fun b c=>
 RR (aR 82 1 [(0,b)]) c fun b c=>
 RR (aA .append #[82,82] 82 [false,false] [e,b]) c fun b c=>
 RR (au .add 3 false true a (.int .i64 1)) c fun a c=>
 g a b c) (
 g b e f)))/\
 ∀ h _ _ i _ _ _ _ _ _ _ _ _ _ _ _ _ _ _ _ _ _:Value,∀ j:World,g h i j->
 RR (au .add 3 false true a (.int .i64 1)) j fun g j=>
 c g h i j/\d g h i j<d a b e f)) (
 R (.returned e) h))
theorem tZ {p0 p1:Value} {w:World} {R:Ending->World->Prop} (h:rf p0 p1 w R):Calls Tryz.prog 125 #[p0,p1] w R:=
  aL (.seq none .leaf (.seq none .leaf (.seq none .leaf (.seq none (.seq none .leaf (.one (.loop [7,6,5] (.seq none .leaf (.seq (some [6,5]) (.one (.seq (some [25]) .leaf .leaf)) .leaf))))) .leaf)))) [p0,p1] bl Tryz.func125 (by kernel_rfl) (by kernel_rfl) h


/- loop.example/prologserver/spec.ParseClause : function 126 -/
def jp (p0:Value) (w:World) (R:Ending->World->Prop):Prop:=
 RR (sOp (.alloc 34) 0) w fun a b=>
 RR (aA .len #[9] 3 [false] [p0]) b fun b c=>
 RR (au .gtr 3 false true b (.int .i64 1000)) c fun b c=>
 CondV b (
 RR (cg 34 []) c fun b c=>
 RR (sOp (.store 34 (.const a) (.const b)) 0) c fun _ b=>
 (ba Tryz.prog 34 a b fun a=>R (.returned (.tuple #[a,(.bool false)])) b)) (
 RR (ay (.func (.func 162) #[] #[]) [p0,(.int .i64 0),(.int .i64 30),(.int .i64 3)]) c fun b c=>
 RR (sOp (.extract (.const b) 0) 32) c fun c d=>
 RR (sOp (.extract (.const b) 1) 3) d fun b d=>
 RR (sOp (.alloc 32) 0) d fun d e=>
 RR (sOp (.store 32 (.const d) (.const c)) 0) e fun _ c=>
 RR (au .lss 3 false true b (.int .i64 0)) c fun c e=>
 CondV c (
 RR (cg 34 []) e fun b c=>
 RR (sOp (.store 34 (.const a) (.const b)) 0) c fun _ b=>
 (ba Tryz.prog 34 a b fun a=>R (.returned (.tuple #[a,(.bool false)])) b)) (
 RR (sOp (.load 32 (.const d)) 32) e fun c d=>
 RR (cg 34 [(0,c)]) d fun c d=>
 RR (sOp (.alloc 34) 0) d fun d e=>
 RR (sOp (.store 34 (.const d) (.const c)) 0) e fun _ c=>
 (∃ e:Value->World->Prop,(
 (∃ a:Value->World->Prop,(
 RR (ay (.func (.func 163) #[] #[]) [p0,b,(.int .u8 58)]) c fun c d=>
 ah c true (
 RR (au .add 3 false true b (.int .i64 1)) d fun b d=>
 RR (ay (.func (.func 163) #[] #[]) [p0,b,(.int .u8 45)]) d fun b d=>
 RR (sOp (.pick (.const c) (.const b) (.const (.bool false))) 4) d fun b c=>
 a b c) (
 RR (sOp (.pick (.const c) (.const undef) (.const (.bool false))) 4) d fun b c=>
 a b c))/\
 ∀ c _ _ _ _ _ _ _ _:Value,∀ f:World,a c f->
 CondV c (
 RR (au .add 3 false true b (.int .i64 2)) f fun a b=>
 RR (ay (.func (.func 164) #[] #[]) [p0,a]) b fun a b=>
 RR (sOp (.extract (.const a) 0) 30) b fun b c=>
 RR (sOp (.extract (.const a) 1) 3) c fun a c=>
 RR (sOp (.fieldAddr 34 (.const d) 1) 0) c fun c d=>
 RR (sOp (.store 30 (.const c) (.const b)) 0) d fun _ b=>
 e a b) (
 e b f)))/\
 ∀ b _ _ _ _ _ _ _ _ _ _ _ _ _ _ _ _ _:Value,∀ c:World,e b c->
 (∃ e:Value->World->Prop,(
 RR (aA .len #[9] 3 [false] [p0]) c fun a c=>
 RR (au .sub 3 false true a (.int .i64 1)) c fun a c=>
 RR (au .neq 3 false false b a) c fun a c=>
 ((fun d:VW=>ah a false (
 RR (ay (.func (.func 163) #[] #[]) [p0,b,(.int .u8 46)]) c fun b c=>
 RR (sOp (.unOp .not 4 (.const b)) 4) c fun b c=>
 RR (sOp (.pick (.const a) (.const (.bool true)) (.const b)) 4) c fun a b=>d a b) (
 RR (sOp (.pick (.const a) (.const (.bool true)) (.const undef)) 4) c fun a b=>d a b)) fun a b=>
 ah a false (
 RR (sOp (.load 34 (.const d)) 34) b fun b c=>
 RR (ay (.func (.func 165) #[] #[]) [b]) c fun b c=>
 RR (au .neq 9 false false b p0) c fun b c=>
 RR (sOp (.pick (.const a) (.const (.bool true)) (.const b)) 4) c fun a b=>
 e a b) (
 RR (sOp (.pick (.const a) (.const (.bool true)) (.const undef)) 4) b fun a b=>
 e a b)))/\
 ∀ b _ _ _ _ _ _ _ _ _ _ _ _ _ _ _ _:Value,∀ c:World,e b c->
 CondV b (
 RR (cg 34 []) c fun b c=>
 RR (sOp (.store 34 (.const a) (.const b)) 0) c fun _ b=>
 (ba Tryz.prog 34 a b fun a=>R (.returned (.tuple #[a,(.bool false)])) b)) (
 RR (sOp (.load 34 (.const d)) 34) c fun b c=>
 RR (ay (.func (.func 111) #[] #[]) [b]) c fun b c=>
 RR (sOp (.store 34 (.const a) (.const b)) 0) c fun _ b=>
 (ba Tryz.prog 34 a b fun a=>R (.returned (.tuple #[a,(.bool true)])) b))))))
theorem l8 {p0:Value} {w:World} {R:Ending->World->Prop} (h:jp p0 w R):Calls Tryz.prog 126 #[p0] w R:=
  aL (.seq none .leaf (.seq none .leaf (.seq none .leaf (.seq none .leaf (.seq none .leaf (.seq (some [5]) (.seq (some [29]) .leaf .leaf) (.seq none (.seq (some [54]) .leaf .leaf) .leaf))))))) [p0] bl Tryz.func126 (by kernel_rfl) (by kernel_rfl) h


/- loop.example/prologserver/impl.ownList : function 128 -/
def pE (p0:Value) (w:World) (R:Ending->World->Prop):Prop:=
 RR (aA .len #[30] 3 [false] [p0]) w fun a b=>
 (∃ (c:Value->Value->World->Prop) (d:Value->Value->World->Nat),c (.int .i64 0) (Value.slice none 0 0) b/\
 ∀ b _ e _ _ _ _ _ _ _ _ _:Value,∀ f:World,c b e f->
 RR (au .lss 3 false false b a) f fun a g=>
 CondV a (
 RR (sOp (.indexAddr 30 (.const p0) (.const b)) 0) g fun a g=>
 RR (sOp (.load 32 (.const a)) 32) g fun a g=>
 RR (sOp (.alloc 32) 0) g fun g h=>
 RR (sOp (.store 32 (.const g) (.const a)) 0) h fun _ a=>
 RR (sOp (.load 32 (.const g)) 32) a fun a g=>
 RR (ay (.func (.func 89) #[] #[]) [a]) g fun a g=>
 RR (aR 30 1 [(0,a)]) g fun a g=>
 RR (aA .append #[30,30] 30 [false,false] [e,a]) g fun a g=>
 RR (au .add 3 false true b (.int .i64 1)) g fun g h=>
 c g a h/\d g a h<d b e f) (
 R (.returned e) g))
theorem sk {p0:Value} {w:World} {R:Ending->World->Prop} (h:pE p0 w R):Calls Tryz.prog 128 #[p0] w R:=
  aL (.seq none .leaf (.seq none .leaf (.seq none (.seq none .leaf (.one (.loop [8,3] .leaf))) .leaf))) [p0] bl Tryz.func128 (by kernel_rfl) (by kernel_rfl) h


/- slices.Clip[[]loop.example/prologserver/impl.Term,loop.example/prologserver/impl.Term] : function 129 -/
def lj (p0:Value) (w:World) (R:Ending->World->Prop):Prop:=
 RR (aA .len #[30] 3 [false] [p0]) w fun a b=>
 RR (aA .len #[30] 3 [false] [p0]) b fun b c=>
 RR (sOp (.slice 30 (.const p0) none (some (.const a)) (some (.const b))) 30) c fun a b=>
 R (.returned a) b
theorem nt {p0:Value} {w:World} {R:Ending->World->Prop} (h:lj p0 w R):Calls Tryz.prog 129 #[p0] w R:=
  aL .leaf [p0] bl Tryz.func129 (by kernel_rfl) (by kernel_rfl) h


/- loop.example/prologserver/spec.l1Renumber : function 130 -/
def j9 (p0:Value) (w:World) (R:Ending->World->Prop):Prop:=
 RR (aR 63 0 []) w fun a b=>
 (∃ (c:Value->Value->World->Prop) (d:Value->Value->World->Nat),c (.int .i64 0) a b/\
 ∀ a _ _ b _ _ _ _ _ _ _ _ _ _:Value,∀ e:World,c a b e->
 RR (aA .len #[30] 3 [false] [p0]) e fun f g=>
 RR (au .lss 3 false false a f) g fun f g=>
 CondV f (
 RR (sOp (.indexAddr 30 (.const p0) (.const a)) 0) g fun f g=>
 RR (sOp (.load 32 (.const f)) 32) g fun f g=>
 RR (ay (.func (.func 166) #[] #[]) [b,f]) g fun f g=>
 RR (au .add 3 false true a (.int .i64 1)) g fun g h=>
 c g f h/\d g f h<d a b e) (
 RR (aR 30 0 []) g fun a c=>
 (∃ (d:Value->Value->World->Prop) (e:Value->Value->World->Nat),d (.int .i64 0) a c/\
 ∀ a _ _ c _ _ _ _ _ _ _ _ _ _ _ _ _:Value,∀ f:World,d a c f->
 RR (aA .len #[30] 3 [false] [p0]) f fun g h=>
 RR (au .lss 3 false false a g) h fun g h=>
 CondV g (
 RR (sOp (.indexAddr 30 (.const p0) (.const a)) 0) h fun g h=>
 RR (sOp (.load 32 (.const g)) 32) h fun g h=>
 RR (ay (.func (.func 167) #[] #[]) [g,b]) h fun b g=>
 RR (aR 30 1 [(0,b)]) g fun b g=>
 RR (aA .append #[30,30] 30 [false,false] [c,b]) g fun b g=>
 RR (au .add 3 false true a (.int .i64 1)) g fun g h=>
 d g b h/\e g b h<e a c f) (
 R (.returned c) h))))
theorem nl {p0:Value} {w:World} {R:Ending->World->Prop} (h:j9 p0 w R):Calls Tryz.prog 130 #[p0] w R:=
  aL (.seq none .leaf (.seq none .leaf (.seq none (.seq none .leaf (.one (.loop [4,3] .leaf))) (.seq none .leaf (.seq none (.seq none .leaf (.one (.loop [6,5] .leaf))) .leaf))))) [p0] bl Tryz.func130 (by kernel_rfl) (by kernel_rfl) h


/- loop.example/prologserver/impl.varsOf : function 131 -/
def rD (p0:Value) (w:World) (R:Ending->World->Prop):Prop:=
 RR (aA .len #[30] 3 [false] [p0]) w fun a b=>
 (∃ (c:Value->Value->World->Prop) (d:Value->Value->World->Nat),c (.int .i64 0) (Value.slice none 0 0) b/\
 ∀ b _ e _ _ _ _ _ _ _:Value,∀ f:World,c b e f->
 RR (au .lss 3 false false b a) f fun a g=>
 CondV a (
 RR (sOp (.indexAddr 30 (.const p0) (.const b)) 0) g fun a g=>
 RR (sOp (.load 32 (.const a)) 32) g fun a g=>
 RR (sOp (.alloc 32) 0) g fun g h=>
 RR (sOp (.store 32 (.const g) (.const a)) 0) h fun _ a=>
 RR (sOp (.load 32 (.const g)) 32) a fun a g=>
 RR (ay (.func (.func 168) #[] #[]) [a,e]) g fun a g=>
 RR (au .add 3 false true b (.int .i64 1)) g fun g h=>
 c g a h/\d g a h<d b e f) (
 R (.returned e) g))
theorem tt {p0:Value} {w:World} {R:Ending->World->Prop} (h:rD p0 w R):Calls Tryz.prog 131 #[p0] w R:=
  aL (.seq none .leaf (.seq none .leaf (.seq none (.seq none .leaf (.one (.loop [8,3] .leaf))) .leaf))) [p0] bl Tryz.func131 (by kernel_rfl) (by kernel_rfl) h


/- loop.example/prologserver/impl.mapVars : function 132 -/
def nH (p0 p1:Value) (w:World) (R:Ending->World->Prop):Prop:=
 RR (sOp (.box 32 (.const p0)) 0) w fun a b=>
 RR (sOp (.alloc 32) 0) b fun b c=>
 RR (sOp (.fieldAddr 32 (.const a) 0) 0) c fun c d=>
 RR (sOp (.load 3 (.const c)) 3) d fun c d=>
 RR (au .eql 3 false true c (.int .i64 1)) d fun c d=>
 CondV c (
 RR (sOp (.fieldAddr 32 (.const a) 1) 0) d fun a c=>
 RR (sOp (.load 3 (.const a)) 3) c fun a c=>
 RR (ay p1 [a]) c fun a c=>
 RR (sOp (.store 32 (.const b) (.const a)) 0) c fun _ a=>
 (ba Tryz.prog 32 b a fun b=>R (.returned b) a)) (
 RR (sOp (.fieldAddr 32 (.const a) 3) 0) d fun c d=>
 RR (sOp (.load 30 (.const c)) 30) d fun c d=>
 RR (sOp (.fieldAddr 32 (.const a) 3) 0) d fun d e=>
 RR (sOp (.store 30 (.const d) (.const (Value.slice none 0 0))) 0) e fun _ d=>
 RR (aA .len #[30] 3 [false] [c]) d fun d e=>
 (∃ (f:Value->World->Prop) (g:Value->World->Nat),f (.int .i64 0) e/\
 ∀ e _ h i j k l m n o _ _ _ _:Value,∀ p:World,f e p->
 RR (au .lss 3 false false e d) p fun d q=>
 CondV d (
 RR (sOp (.indexAddr 30 (.const c) (.const e)) 0) q fun b c=>
 RR (sOp (.load 32 (.const b)) 32) c fun b c=>
 RR (sOp (.alloc 32) 0) c fun c d=>
 RR (sOp (.store 32 (.const c) (.const b)) 0) d fun _ b=>
 (∃ d:(Nat->Bool)->Value->Value->Value->Value->Value->Value->Value->Value->World->Prop,d (fun _=>false) h i j k l m n o { b with drawn:=b.drawn+1 }/\(
 (∀ b:Nat->Bool,b 0=false->∀ c e f g h i j k l,d b c e f g h i j k l->
 RR (sOp (.fieldAddr 32 (.const a) 3) 0) l fun a k=>
 d (av b 0) c e f g h i j a k)/\
 (∀ a:Nat->Bool,a 1=false->a 0=true->∀ b c e f g h i j k,d a b c e f g h i j k->
 RR (sOp (.load 30 (.const j)) 30) k fun i k=>
 d (av a 1) b c e f g h i j k)/\
 (∀ a:Nat->Bool,a 2=false->∀ b e f g h i j k l,d a b e f g h i j k l->
 RR (sOp (.load 32 (.const c)) 32) l fun c i=>
 d (av a 2) b e f g h c j k i)/\
 (∀ a:Nat->Bool,a 3=false->∀ b c e f g h i j k,d a b c e f g h i j k->
 d (av a 3) b c e f p1 h i j k)/\
 (∀ a:Nat->Bool,a 4=false->a 2=true->a 3=true->∀ b c e f g h i j k,d a b c e f g h i j k->
 RR (ay (.func (.func 132) #[] #[]) [h,g]) k fun f k=>
 d (av a 4) b c e f g h i j k)/\
 (∀ a:Nat->Bool,a 5=false->a 4=true->∀ b c e f g h i j k,d a b c e f g h i j k->
 RR (aR 30 1 [(0,f)]) k fun e k=>
 d (av a 5) b c e f g h i j k)/\
 (∀ a:Nat->Bool,a 6=false->a 1=true->a 5=true->a 4=true->∀ b c e f g h i j k,d a b c e f g h i j k->
 RR (aA .append #[30,30] 30 [false,false] [i,e]) k fun c k=>
 d (av a 6) b c e f g h i j k)/\
 (∀ b:Nat->Bool,b 7=false->b 0=true->b 1=true->b 2=true->b 3=true->b 4=true->b 5=true->b 6=true->∀ c e f g h i j k l,d b c e f g h i j k l->
 RR (sOp (.fieldAddr 32 (.const a) 3) 0) l fun a c=>
 d (av b 7) a e f g h i j k c)/\
 (∀ a:Nat->Bool,a 8=false->a 7=true->a 6=true->a 6=true->a 0=true->a 1=true->a 2=true->a 3=true->a 4=true->a 5=true->a 6=true->∀ b c e f g h i j k,d a b c e f g h i j k->
 RR (sOp (.store 30 (.const b) (.const c)) 0) k fun _ k=>
 d (av a 8) b c e f g h i j k)/\
 True)/\
 ∀ a:Nat->Bool,a 8=true->a 7=true->a 6=true->a 5=true->a 4=true->a 3=true->a 2=true->a 1=true->a 0=true->∀ b c h i j k l m n,d a b c h i j k l m n->
 RR (au .add 3 false true e (.int .i64 1)) n fun a b=>
 f a b/\g a b<g e p)) (
 RR (sOp (.load 32 (.const a)) 32) q fun a c=>
 RR (sOp (.store 32 (.const b) (.const a)) 0) c fun _ a=>
 (ba Tryz.prog 32 b a fun b=>R (.returned b) a))))
theorem rT {p0 p1:Value} {w:World} {R:Ending->World->Prop} (h:nH p0 p1 w R):Calls Tryz.prog 132 #[p0,p1] w R:=
  aL (.seq none .leaf (.seq none .leaf (.seq none .leaf (.seq none .leaf (.seq none (.seq none .leaf (.one (.loop [20] .leaf))) .leaf))))) [p0,p1] bl Tryz.func132 (by kernel_rfl) (by kernel_rfl) h


/- loop.example/prologserver/impl.renumbered$1 : function 133 -/
def i8 (p0 p1:Value) (w:World) (R:Ending->World->Prop):Prop:=
 RR (sOp (.alloc 32) 0) w fun a b=>
 RR (sOp (.load 63 (.const p1)) 63) b fun b c=>
 RR (ay (.func (.func 135) #[] #[]) [b,p0]) c fun b c=>
 RR (ay (.func (.func 134) #[] #[]) [b]) c fun b c=>
 RR (sOp (.store 32 (.const a) (.const b)) 0) c fun _ b=>
 (ba Tryz.prog 32 a b fun a=>R (.returned a) b)
theorem lx {p0 p1:Value} {w:World} {R:Ending->World->Prop} (h:i8 p0 p1 w R):Calls Tryz.prog 133 #[p0,p1] w R:=
  aL .leaf [p0,p1] bl Tryz.func133 (by kernel_rfl) (by kernel_rfl) h


/- loop.example/prologserver/impl.variable : function 134 -/
def mD (p0:Value) (w:World) (R:Ending->World->Prop):Prop:=
 RR (sOp (.alloc 32) 0) w fun a b=>
 RR (cg 32 [(0,(.int .i64 1)),(1,p0)]) b fun b c=>
 RR (sOp (.store 32 (.const a) (.const b)) 0) c fun _ b=>
 (ba Tryz.prog 32 a b fun a=>R (.returned a) b)
theorem pY {p0:Value} {w:World} {R:Ending->World->Prop} (h:mD p0 w R):Calls Tryz.prog 134 #[p0] w R:=
  aL .leaf [p0] bl Tryz.func134 (by kernel_rfl) (by kernel_rfl) h


/- slices.Index[[]int,int] : function 135 -/
def lJ (p0 p1:Value) (w:World) (R:Ending->World->Prop):Prop:=
 RR (aA .len #[63] 3 [false] [p0]) w fun a b=>
 (∃ (c:Value->World->Prop) (d:Value->World->Nat),c (.int .i64 0) b/\
 ∀ b _ _ _ _ _ _ _ _ _ _ _ _:Value,∀ e:World,c b e->
 RR (au .lss 3 false false b a) e fun a f=>
 CondV a (
 RR (sOp (.indexAddr 63 (.const p0) (.const b)) 0) f fun a f=>
 RR (sOp (.load 3 (.const a)) 3) f fun a f=>
 RR (au .eql 3 false false p1 a) f fun a f=>
 CondV a (
 R (.returned b) f) (
 RR (au .add 3 false true b (.int .i64 1)) f fun a f=>
 c a f/\d a f<d b e)) (
 R (.returned (.int .i64 (-1))) f))
theorem oC {p0 p1:Value} {w:World} {R:Ending->World->Prop} (h:lJ p0 p1 w R):Calls Tryz.prog 135 #[p0,p1] w R:=
  aL (.seq none .leaf (.seq none (.seq none .leaf (.one (.loop [8] .leaf))) .leaf)) [p0,p1] bl Tryz.func135 (by kernel_rfl) (by kernel_rfl) h


/- loop.example/prologserver/spec.l4Texts : function 136 -/
def nG (w:World) (R:Ending->World->Prop):Prop:=
 RR (aR 82 11 [(0,(.string ⟨#[97,112,112,40,91,93,44,65,44,65,41,46,10,97,112,112,40,91,65,124,66,93,44,67,44,91,65,124,68,93,41,58,45,97,112,112,40,66,44,67,44,68,41,46,10]⟩)),(1,(.string ⟨#[109,101,109,40,65,44,91,65,124,66,93,41,46,10,109,101,109,40,65,44,91,66,124,67,93,41,58,45,109,101,109,40,65,44,67,41,46,10]⟩)),(2,(.string ⟨#[112,40,49,41,46,10,112,40,50,41,46,10,112,40,51,41,46,10,113,40,65,41,58,45,112,40,65,41,44,65,62,49,44,33,46,10,114,40,65,44,66,41,58,45,112,40,65,41,44,112,40,66,41,46,10]⟩)),(3,(.string ⟨#[108,101,110,40,91,93,44,48,41,46,10,108,101,110,40,91,65,124,66,93,44,67,41,58,45,108,101,110,40,66,44,68,41,44,67,32,105,115,32,68,43,49,46,10]⟩)),(4,(.string ⟨#[109,97,120,40,65,44,66,44,65,41,58,45,65,62,61,66,44,33,46,10,109,97,120,40,65,44,66,44,66,41,46,10]⟩)),(5,(.string ⟨#[101,40,97,44,98,41,46,10,101,40,98,44,99,41,46,10,101,40,99,44,100,41,46,10,116,40,65,44,66,41,58,45,101,40,65,44,66,41,46,10,116,40,65,44,66,41,58,45,101,40,65,44,67,41,44,116,40,67,44,66,41,46,10]⟩)),(6,(.string ⟨#[108,111,111,112,58,45,108,111,111,112,46,10,111,107,46,10]⟩)),(7,(.string ⟨#[102,97,99,40,48,44,49,41,58,45,33,46,10,102,97,99,40,65,44,66,41,58,45,65,62,48,44,67,32,105,115,32,65,45,49,44,102,97,99,40,67,44,68,41,44,66,32,105,115,32,65,42,68,46,10]⟩)),(8,(.string ⟨#[115,40,65,41,58,45,65,61,102,40,66,41,44,97,114,103,40,49,44,65,44,66,41,44,66,61,49,46,10,115,40,65,41,58,45,118,97,114,40,65,41,44,65,61,110,111,110,101,46,10]⟩)),(9,(.string ⟨#[114,101,118,40,91,93,44,65,44,65,41,46,10,114,101,118,40,91,65,124,66,93,44,67,44,68,41,58,45,114,101,118,40,66,44,91,65,124,67,93,44,68,41,46,10]⟩)),(10,(.string ⟨#[98,97,100,40,65,41,58,45,66,32,105,115,32,65,43,102,111,111,44,67,61,66,46,10,98,105,103,40,65,41,58,45,65,32,105,115,32,57,57,57,43,49,46,10,117,110,40,65,41,58,45,110,111,115,117,99,104,40,65,41,46,10]⟩))]) w fun a b=>
 R (.returned a) b
theorem sf {w:World} {R:Ending->World->Prop} (h:nG w R):Calls Tryz.prog 136 #[] w R:=
  aL .leaf [] bl Tryz.func136 (by kernel_rfl) (by kernel_rfl) h


/- (*loop.example/prologserver/spec.l18Rd).num : function 140 -/
def lm (p0 p1:Value) (w:World) (R:Ending->World->Prop):Prop:=
 RR (aA .len #[63] 3 [false] [p1]) w fun a b=>
 RR (ay (.func (.func 61) #[] #[]) [p0,a]) b fun a b=>
 RR (sOp (.indexAddr 63 (.const p1) (.const a)) 0) b fun a b=>
 RR (sOp (.load 3 (.const a)) 3) b fun a b=>
 R (.returned a) b
theorem ow {p0 p1:Value} {w:World} {R:Ending->World->Prop} (h:lm p0 p1 w R):Calls Tryz.prog 140 #[p0,p1] w R:=
  aL .leaf [p0,p1] bl Tryz.func140 (by kernel_rfl) (by kernel_rfl) h


/- loop.example/prologserver/impl.isCut : function 141 -/
def ug (p0:Value) (w:World) (R:Ending->World->Prop):Prop:=
 RR (sOp (.box 32 (.const p0)) 0) w fun a b=>
 RR (sOp (.load 32 (.const a)) 32) b fun b c=>
 RR (ay (.func (.func 172) #[] #[]) [b]) c fun b c=>
 ah b true (
 RR (sOp (.fieldAddr 32 (.const a) 2) 0) c fun a c=>
 RR (sOp (.load 9 (.const a)) 9) c fun a c=>
 RR (au .eql 9 false true a (.string ⟨#[33]⟩)) c fun a c=>
 RR (sOp (.pick (.const b) (.const a) (.const (.bool false))) 4) c fun a b=>
 R (.returned a) b) (
 RR (sOp (.pick (.const b) (.const undef) (.const (.bool false))) 4) c fun a b=>
 R (.returned a) b)
theorem uQ {p0:Value} {w:World} {R:Ending->World->Prop} (h:ug p0 w R):Calls Tryz.prog 141 #[p0] w R:=
  aL .leaf [p0] bl Tryz.func141 (by kernel_rfl) (by kernel_rfl) h


/- loop.example/prologserver/spec.l4Cut : function 147 -/
def un (p0:Value) (w:World) (R:Ending->World->Prop):Prop:=
 RR (sOp (.box 32 (.const p0)) 0) w fun a b=>
 RR (sOp (.fieldAddr 32 (.const a) 0) 0) b fun b c=>
 RR (sOp (.load 3 (.const b)) 3) c fun b c=>
 RR (au .eql 3 false true b (.int .i64 3)) c fun b c=>
 ((fun d:VW=>ah b true (
 RR (sOp (.fieldAddr 32 (.const a) 2) 0) c fun a c=>
 RR (sOp (.load 9 (.const a)) 9) c fun a c=>
 RR (au .eql 9 false true a (.string ⟨#[33]⟩)) c fun a c=>
 RR (sOp (.pick (.const b) (.const a) (.const (.bool false))) 4) c fun a b=>d a b) (
 RR (sOp (.pick (.const b) (.const undef) (.const (.bool false))) 4) c fun a b=>d a b)) fun b c=>
 ah b true (
 RR (sOp (.fieldAddr 32 (.const a) 3) 0) c fun a c=>
 RR (sOp (.load 30 (.const a)) 30) c fun a c=>
 RR (aA .len #[30] 3 [false] [a]) c fun a c=>
 RR (au .eql 3 false true a (.int .i64 0)) c fun a c=>
 RR (sOp (.pick (.const b) (.const a) (.const (.bool false))) 4) c fun a b=>
 R (.returned a) b) (
 RR (sOp (.pick (.const b) (.const undef) (.const (.bool false))) 4) c fun a b=>
 R (.returned a) b))
theorem ve {p0:Value} {w:World} {R:Ending->World->Prop} (h:un p0 w R):Calls Tryz.prog 147 #[p0] w R:=
  aL .leaf [p0] bl Tryz.func147 (by kernel_rfl) (by kernel_rfl) h


/- loop.example/prologserver/spec.l1Var : function 148 -/
def tL (p0:Value) (w:World) (R:Ending->World->Prop):Prop:=
 RR (sOp (.alloc 32) 0) w fun a b=>
 RR (cg 32 [(0,(.int .i64 1)),(1,p0)]) b fun b c=>
 RR (sOp (.store 32 (.const a) (.const b)) 0) c fun _ b=>
 (ba Tryz.prog 32 a b fun a=>R (.returned a) b)
theorem vk {p0:Value} {w:World} {R:Ending->World->Prop} (h:tL p0 w R):Calls Tryz.prog 148 #[p0] w R:=
  aL .leaf [p0] bl Tryz.func148 (by kernel_rfl) (by kernel_rfl) h


/- loop.example/prologserver/spec.l1Int : function 149 -/
def uu (p0:Value) (w:World) (R:Ending->World->Prop):Prop:=
 RR (sOp (.alloc 32) 0) w fun a b=>
 RR (cg 32 [(0,(.int .i64 2)),(1,p0)]) b fun b c=>
 RR (sOp (.store 32 (.const a) (.const b)) 0) c fun _ b=>
 (ba Tryz.prog 32 a b fun a=>R (.returned a) b)
theorem vh {p0:Value} {w:World} {R:Ending->World->Prop} (h:uu p0 w R):Calls Tryz.prog 149 #[p0] w R:=
  aL .leaf [p0] bl Tryz.func149 (by kernel_rfl) (by kernel_rfl) h


/- loop.example/prologserver/spec.l1Copy : function 150 -/
def lF (p0:Value) (w:World) (R:Ending->World->Prop):Prop:=
 RR (sOp (.box 32 (.const p0)) 0) w fun a b=>
 RR (sOp (.alloc 32) 0) b fun b c=>
 RR (sOp (.fieldAddr 32 (.const a) 0) 0) c fun c d=>
 RR (sOp (.load 3 (.const c)) 3) d fun c d=>
 RR (sOp (.fieldAddr 32 (.const a) 1) 0) d fun d e=>
 RR (sOp (.load 3 (.const d)) 3) e fun d e=>
 RR (sOp (.fieldAddr 32 (.const a) 2) 0) e fun e f=>
 RR (sOp (.load 9 (.const e)) 9) f fun e f=>
 RR (cg 32 [(0,c),(1,d),(2,e)]) f fun c d=>
 RR (sOp (.alloc 32) 0) d fun d e=>
 RR (sOp (.store 32 (.const d) (.const c)) 0) e fun _ c=>
 (∃ (e:Value->World->Prop) (f:Value->World->Nat),e (.int .i64 0) c/\
 ∀ c _ _ g h i j k l m n o p q _ _ _ _ _:Value,∀ r:World,e c r->
 RR (sOp (.fieldAddr 32 (.const a) 3) 0) r fun s t=>
 RR (sOp (.load 30 (.const s)) 30) t fun s t=>
 RR (aA .len #[30] 3 [false] [s]) t fun s t=>
 RR (au .lss 3 false false c s) t fun s t=>
 CondV s (
 (∃ b:(Nat->Bool)->Value->Value->Value->Value->Value->Value->Value->Value->Value->Value->Value->World->Prop,b (fun _=>false) g h i j k l m n o p q { t with drawn:=t.drawn+1 }/\(
 (∀ a:Nat->Bool,a 0=false->∀ c e f g h i j k l m n o,b a c e f g h i j k l m n o->
 RR (sOp (.fieldAddr 32 (.const d) 3) 0) o fun d n=>
 b (av a 0) c e f g h i j k l m d n)/\
 (∀ a:Nat->Bool,a 1=false->a 0=true->∀ c d e f g h i j k l m n,b a c d e f g h i j k l m n->
 RR (sOp (.load 30 (.const m)) 30) n fun l n=>
 b (av a 1) c d e f g h i j k l m n)/\
 (∀ c:Nat->Bool,c 2=false->∀ d e f g h i j k l m n o,b c d e f g h i j k l m n o->
 RR (sOp (.fieldAddr 32 (.const a) 3) 0) o fun a l=>
 b (av c 2) d e f g h i j k a m n l)/\
 (∀ a:Nat->Bool,a 3=false->a 2=true->∀ c d e f g h i j k l m n,b a c d e f g h i j k l m n->
 RR (sOp (.load 30 (.const k)) 30) n fun j n=>
 b (av a 3) c d e f g h i j k l m n)/\
 (∀ a:Nat->Bool,a 4=false->∀ d e f g h i j k l m n o,b a d e f g h i j k l m n o->
 b (av a 4) d e f g h i c k l m n o)/\
 (∀ a:Nat->Bool,a 5=false->a 3=true->a 4=true->∀ c d e f g h i j k l m n,b a c d e f g h i j k l m n->
 RR (sOp (.indexAddr 30 (.const j) (.const i)) 0) n fun h n=>
 b (av a 5) c d e f g h i j k l m n)/\
 (∀ a:Nat->Bool,a 6=false->a 5=true->∀ c d e f g h i j k l m n,b a c d e f g h i j k l m n->
 RR (sOp (.load 32 (.const h)) 32) n fun g n=>
 b (av a 6) c d e f g h i j k l m n)/\
 (∀ a:Nat->Bool,a 7=false->a 6=true->∀ c d e f g h i j k l m n,b a c d e f g h i j k l m n->
 RR (ay (.func (.func 150) #[] #[]) [g]) n fun f n=>
 b (av a 7) c d e f g h i j k l m n)/\
 (∀ a:Nat->Bool,a 8=false->a 7=true->∀ c d e f g h i j k l m n,b a c d e f g h i j k l m n->
 RR (aR 30 1 [(0,f)]) n fun e n=>
 b (av a 8) c d e f g h i j k l m n)/\
 (∀ a:Nat->Bool,a 9=false->a 1=true->a 8=true->a 7=true->∀ c d e f g h i j k l m n,b a c d e f g h i j k l m n->
 RR (aA .append #[30,30] 30 [false,false] [l,e]) n fun d n=>
 b (av a 9) c d e f g h i j k l m n)/\
 (∀ a:Nat->Bool,a 10=false->a 0=true->a 1=true->a 2=true->a 3=true->a 4=true->a 5=true->a 6=true->a 7=true->a 8=true->a 9=true->∀ c e f g h i j k l m n o,b a c e f g h i j k l m n o->
 RR (sOp (.fieldAddr 32 (.const d) 3) 0) o fun c d=>
 b (av a 10) c e f g h i j k l m n d)/\
 (∀ a:Nat->Bool,a 11=false->a 10=true->a 9=true->a 9=true->a 0=true->a 1=true->a 2=true->a 3=true->a 4=true->a 5=true->a 6=true->a 7=true->a 8=true->a 9=true->∀ c d e f g h i j k l m n,b a c d e f g h i j k l m n->
 RR (sOp (.store 30 (.const c) (.const d)) 0) n fun _ n=>
 b (av a 11) c d e f g h i j k l m n)/\
 True)/\
 ∀ a:Nat->Bool,a 11=true->a 10=true->a 9=true->a 8=true->a 7=true->a 6=true->a 5=true->a 4=true->a 3=true->a 2=true->a 1=true->a 0=true->∀ d g h i j k l m n o p q,b a d g h i j k l m n o p q->
 RR (au .add 3 false true c (.int .i64 1)) q fun a b=>
 e a b/\f a b<f c r)) (
 RR (sOp (.load 32 (.const d)) 32) t fun a c=>
 RR (sOp (.store 32 (.const b) (.const a)) 0) c fun _ a=>
 (ba Tryz.prog 32 b a fun b=>R (.returned b) a)))
theorem lf {p0:Value} {w:World} {R:Ending->World->Prop} (h:lF p0 w R):Calls Tryz.prog 150 #[p0] w R:=
  aL (.seq none .leaf (.seq none .leaf (.seq none (.seq none .leaf (.one (.loop [4] .leaf))) .leaf))) [p0] bl Tryz.func150 (by kernel_rfl) (by kernel_rfl) h


/- loop.example/prologserver/spec.l4Goal : function 151 -/
def rF (p0:Value) (w:World) (R:Ending->World->Prop):Prop:=
 RR (sOp (.box 32 (.const p0)) 0) w fun a b=>
 RR (sOp (.load 32 (.const a)) 32) b fun b c=>
 RR (ay (.func (.func 147) #[] #[]) [b]) c fun b c=>
 ((fun d:VW=>ah b false (
 RR (sOp (.load 32 (.const a)) 32) c fun a c=>
 RR (ay (.func (.func 116) #[] #[]) [a]) c fun a c=>
 RR (sOp (.pick (.const b) (.const (.bool true)) (.const a)) 4) c fun a b=>d a b) (
 RR (sOp (.pick (.const b) (.const (.bool true)) (.const undef)) 4) c fun a b=>d a b)) fun b c=>
 ah b false (
 RR (sOp (.fieldAddr 32 (.const a) 0) 0) c fun c d=>
 RR (sOp (.load 3 (.const c)) 3) d fun c d=>
 RR (au .eql 3 false true c (.int .i64 3)) d fun c d=>
 ah c true (
 RR (sOp (.fieldAddr 32 (.const a) 2) 0) d fun d e=>
 RR (sOp (.load 9 (.const d)) 9) e fun d e=>
 RR (sOp (.fieldAddr 32 (.const a) 3) 0) e fun a e=>
 RR (sOp (.load 30 (.const a)) 30) e fun a e=>
 RR (aA .len #[30] 3 [false] [a]) e fun a e=>
 RR (ay (.func (.func 155) #[] #[]) [d,a]) e fun a d=>
 ah b false (
 RR (sOp (.pick (.const c) (.const a) (.const (.bool false))) 4) d fun a c=>
 RR (sOp (.pick (.const b) (.const (.bool true)) (.const a)) 4) c fun a b=>
 R (.returned a) b) (
 RR (sOp (.pick (.const b) (.const (.bool true)) (.const undef)) 4) d fun a b=>
 R (.returned a) b)) (
 ah b false (
 RR (sOp (.pick (.const c) (.const undef) (.const (.bool false))) 4) d fun a c=>
 RR (sOp (.pick (.const b) (.const (.bool true)) (.const a)) 4) c fun a b=>
 R (.returned a) b) (
 RR (sOp (.pick (.const b) (.const (.bool true)) (.const undef)) 4) d fun a b=>
 R (.returned a) b))) (
 ah undef true (
 RR (sOp (.fieldAddr 32 (.const a) 2) 0) c fun c d=>
 RR (sOp (.load 9 (.const c)) 9) d fun c d=>
 RR (sOp (.fieldAddr 32 (.const a) 3) 0) d fun a d=>
 RR (sOp (.load 30 (.const a)) 30) d fun a d=>
 RR (aA .len #[30] 3 [false] [a]) d fun a d=>
 RR (ay (.func (.func 155) #[] #[]) [c,a]) d fun a c=>
 ah b false (
 RR (sOp (.pick (.const undef) (.const a) (.const (.bool false))) 4) c fun a c=>
 RR (sOp (.pick (.const b) (.const (.bool true)) (.const a)) 4) c fun a b=>
 R (.returned a) b) (
 RR (sOp (.pick (.const b) (.const (.bool true)) (.const undef)) 4) c fun a b=>
 R (.returned a) b)) (
 ah b false (
 RR (sOp (.pick (.const undef) (.const undef) (.const (.bool false))) 4) c fun a c=>
 RR (sOp (.pick (.const b) (.const (.bool true)) (.const a)) 4) c fun a b=>
 R (.returned a) b) (
 RR (sOp (.pick (.const b) (.const (.bool true)) (.const undef)) 4) c fun a b=>
 R (.returned a) b))))
theorem ud {p0:Value} {w:World} {R:Ending->World->Prop} (h:rF p0 w R):Calls Tryz.prog 151 #[p0] w R:=
  aL .leaf [p0] bl Tryz.func151 (by kernel_rfl) (by kernel_rfl) h


/- loop.example/prologserver/spec.l1Shape : function 152 -/
def oG (p0 p1:Value) (w:World) (R:Ending->World->Prop):Prop:=
 RR (sOp (.box 32 (.const p0)) 0) w fun a b=>
 (∃ c:Value->World->Prop,(
 RR (au .lss 3 false true p1 (.int .i64 1)) b fun b d=>
 ah b false (
 RR (sOp (.load 32 (.const a)) 32) d fun a d=>
 RR (ay (.func (.func 176) #[] #[]) [a]) d fun a d=>
 RR (sOp (.unOp .not 4 (.const a)) 4) d fun a d=>
 RR (sOp (.pick (.const b) (.const (.bool true)) (.const a)) 4) d fun a b=>
 c a b) (
 RR (sOp (.pick (.const b) (.const (.bool true)) (.const undef)) 4) d fun a b=>
 c a b))/\
 ∀ b _ _ _ _ _ _:Value,∀ d:World,c b d->
 CondV b (
 R (.returned (.bool false)) d) (
 (∃ (b:Value->World->Prop) (c:Value->World->Nat),b (.int .i64 0) d/\
 ∀ d _ _ _ _ _ _ _ _ _ _ _ _ _ _ _ _ _:Value,∀ e:World,b d e->
 RR (sOp (.fieldAddr 32 (.const a) 3) 0) e fun f g=>
 RR (sOp (.load 30 (.const f)) 30) g fun f g=>
 RR (aA .len #[30] 3 [false] [f]) g fun f g=>
 RR (au .lss 3 false false d f) g fun f g=>
 CondV f (
 RR (sOp (.fieldAddr 32 (.const a) 3) 0) g fun a f=>
 RR (sOp (.load 30 (.const a)) 30) f fun a f=>
 RR (sOp (.indexAddr 30 (.const a) (.const d)) 0) f fun a f=>
 RR (sOp (.load 32 (.const a)) 32) f fun a f=>
 RR (au .sub 3 false true p1 (.int .i64 1)) f fun f g=>
 RR (ay (.func (.func 152) #[] #[]) [a,f]) g fun a f=>
 RR (sOp (.unOp .not 4 (.const a)) 4) f fun a f=>
 CondV a (
 R (.returned (.bool false)) f) (
 RR (au .add 3 false true d (.int .i64 1)) f fun a f=>
 b a f/\c a f<c d e)) (
 R (.returned (.bool true)) g))))
theorem su {p0 p1:Value} {w:World} {R:Ending->World->Prop} (h:oG p0 p1 w R):Calls Tryz.prog 152 #[p0,p1] w R:=
  aL (.seq none .leaf (.seq none (.seq (some [12]) .leaf .leaf) (.seq none (.seq none .leaf (.one (.loop [5] .leaf))) .leaf))) [p0,p1] bl Tryz.func152 (by kernel_rfl) (by kernel_rfl) h


/- loop.example/prologserver/spec.l1Count : function 153 -/
def nC (p0 p1:Value) (w:World) (R:Ending->World->Prop):Prop:=
 RR (sOp (.box 32 (.const p0)) 0) w fun a b=>
 (∃ (c:Value->Value->World->Prop) (d:Value->Value->World->Nat),c (.int .i64 0) (.int .i64 1) b/\
 ∀ b _ _ e _ _ _ _ _ _ _ _ _ _ _ _ _ _ _ _ _ _ _ _ _:Value,∀ f:World,c b e f->
 (∃ g:Value->World->Prop,(
 RR (sOp (.fieldAddr 32 (.const a) 3) 0) f fun a c=>
 RR (sOp (.load 30 (.const a)) 30) c fun a c=>
 RR (aA .len #[30] 3 [false] [a]) c fun a c=>
 RR (au .lss 3 false false b a) c fun a b=>
 ah a true (
 RR (au .leq 3 false false e p1) b fun b c=>
 RR (sOp (.pick (.const a) (.const b) (.const (.bool false))) 4) c fun a b=>
 g a b) (
 RR (sOp (.pick (.const a) (.const undef) (.const (.bool false))) 4) b fun a b=>
 g a b))/\
 ∀ h _ _ _ _ _ _ _ _ _:Value,∀ i:World,g h i->
 CondV h (
 RR (sOp (.fieldAddr 32 (.const a) 3) 0) i fun a g=>
 RR (sOp (.load 30 (.const a)) 30) g fun a g=>
 RR (sOp (.indexAddr 30 (.const a) (.const b)) 0) g fun a g=>
 RR (sOp (.load 32 (.const a)) 32) g fun a g=>
 RR (au .sub 3 false false p1 e) g fun g h=>
 RR (ay (.func (.func 153) #[] #[]) [a,g]) h fun a g=>
 RR (au .add 3 false false e a) g fun a g=>
 RR (au .add 3 false true b (.int .i64 1)) g fun g h=>
 c g a h/\d g a h<d b e f) (
 R (.returned e) i)))
theorem sa {p0 p1:Value} {w:World} {R:Ending->World->Prop} (h:nC p0 p1 w R):Calls Tryz.prog 153 #[p0,p1] w R:=
  aL (.seq none .leaf (.seq none .leaf (.seq none (.seq none .leaf (.one (.loop [6,5] (.seq none (.seq (some [16]) .leaf .leaf) .leaf)))) .leaf))) [p0,p1] bl Tryz.func153 (by kernel_rfl) (by kernel_rfl) h


/- loop.example/prologserver/spec.l1Word : function 154 -/
def qO (p0:Value) (w:World) (R:Ending->World->Prop):Prop:=
 (∃ (a:Value->World->Prop) (b:Value->World->Nat),a (.int .i64 0) w/\
 ∀ c _ _ _ _ _ _ _ _ _ _ _ _ _ _ _ _ _:Value,∀ d:World,a c d->
 RR (aA .len #[9] 3 [false] [p0]) d fun e f=>
 RR (au .lss 3 false false c e) f fun e f=>
 CondV e (
 (∃ e:Value->World->Prop,(
 RR (sOp (.index 9 (.const p0) (.const c)) 5) f fun a b=>
 RR (au .lss 5 false true a (.int .u8 97)) b fun a b=>
 ah a false (
 RR (sOp (.index 9 (.const p0) (.const c)) 5) b fun b c=>
 RR (au .gtr 5 false true b (.int .u8 122)) c fun b c=>
 RR (sOp (.pick (.const a) (.const (.bool true)) (.const b)) 4) c fun a b=>
 e a b) (
 RR (sOp (.pick (.const a) (.const (.bool true)) (.const undef)) 4) b fun a b=>
 e a b))/\
 ∀ f _ _ _ _ _ _ _ _ _:Value,∀ g:World,e f g->
 CondV f (
 R (.returned (.bool false)) g) (
 RR (au .add 3 false true c (.int .i64 1)) g fun e f=>
 a e f/\b e f<b c d))) (
 RR (aA .len #[9] 3 [false] [p0]) f fun a b=>
 RR (au .geq 3 false true a (.int .i64 1)) b fun a b=>
 ah a true (
 RR (aA .len #[9] 3 [false] [p0]) b fun b c=>
 RR (au .leq 3 false true b (.int .i64 6)) c fun b c=>
 RR (sOp (.pick (.const a) (.const b) (.const (.bool false))) 4) c fun a b=>
 R (.returned a) b) (
 RR (sOp (.pick (.const a) (.const undef) (.const (.bool false))) 4) b fun a b=>
 R (.returned a) b)))
theorem tC {p0:Value} {w:World} {R:Ending->World->Prop} (h:qO p0 w R):Calls Tryz.prog 154 #[p0] w R:=
  aL (.seq none .leaf (.seq none (.seq none .leaf (.one (.loop [3] (.seq none .leaf (.seq none (.one (.seq (some [19]) .leaf .leaf)) .leaf))))) .leaf)) [p0] bl Tryz.func154 (by kernel_rfl) (by kernel_rfl) h


/- loop.example/prologserver/spec.IsBuiltin : function 155 -/
def kI (p0 p1:Value) (w:World) (R:Ending->World->Prop):Prop:=
 (∃ a:Value->World->Prop,(
 RR (au .eql 9 false true p0 (.string ⟨#[61]⟩)) w fun b c=>
 CondV b (
 a b c) (
 RR (au .eql 9 false true p0 (.string ⟨#[92,61]⟩)) c fun b c=>
 CondV b (
 a b c) (
 RR (au .eql 9 false true p0 (.string ⟨#[61,61]⟩)) c fun b c=>
 CondV b (
 a b c) (
 RR (au .eql 9 false true p0 (.string ⟨#[60]⟩)) c fun b c=>
 CondV b (
 a b c) (
 RR (au .eql 9 false true p0 (.string ⟨#[62]⟩)) c fun b c=>
 CondV b (
 a b c) (
 RR (au .eql 9 false true p0 (.string ⟨#[61,60]⟩)) c fun b c=>
 CondV b (
 a b c) (
 RR (au .eql 9 false true p0 (.string ⟨#[62,61]⟩)) c fun b c=>
 CondV b (
 a b c) (
 RR (au .eql 9 false true p0 (.string ⟨#[61,58,61]⟩)) c fun b c=>
 CondV b (
 a b c) (
 RR (au .eql 9 false true p0 (.string ⟨#[105,115]⟩)) c fun b c=>
 a b c)))))))))/\
 ∀ _ _ _ _ _ _ _ _ b _:Value,∀ c:World,a b c->
 CondV b (
 RR (au .eql 3 false true p1 (.int .i64 2)) c fun a b=>
 R (.returned a) b) (
 (∃ a:Value->World->Prop,(
 RR (au .eql 9 false true p0 (.string ⟨#[116,114,117,101]⟩)) c fun b c=>
 CondV b (
 a b c) (
 RR (au .eql 9 false true p0 (.string ⟨#[102,97,105,108]⟩)) c fun b c=>
 a b c))/\
 ∀ _ b _:Value,∀ c:World,a b c->
 CondV b (
 RR (au .eql 3 false true p1 (.int .i64 0)) c fun a b=>
 R (.returned a) b) (
 (∃ a:Value->World->Prop,(
 RR (au .eql 9 false true p0 (.string ⟨#[118,97,114]⟩)) c fun b c=>
 CondV b (
 a b c) (
 RR (au .eql 9 false true p0 (.string ⟨#[110,111,110,118,97,114]⟩)) c fun b c=>
 CondV b (
 a b c) (
 RR (au .eql 9 false true p0 (.string ⟨#[97,116,111,109]⟩)) c fun b c=>
 CondV b (
 a b c) (
 RR (au .eql 9 false true p0 (.string ⟨#[105,110,116]⟩)) c fun b c=>
 a b c))))/\
 ∀ _ _ _ b _:Value,∀ c:World,a b c->
 CondV b (
 RR (au .eql 3 false true p1 (.int .i64 1)) c fun a b=>
 R (.returned a) b) (
 RR (au .eql 9 false true p0 (.string ⟨#[97,114,103]⟩)) c fun a b=>
 CondV a (
 RR (au .eql 3 false true p1 (.int .i64 3)) b fun a b=>
 R (.returned a) b) (
 R (.returned (.bool false)) b)))))))
theorem nY {p0 p1:Value} {w:World} {R:Ending->World->Prop} (h:kI p0 p1 w R):Calls Tryz.prog 155 #[p0,p1] w R:=
  aL (.seq none .leaf (.seq none (.seq none .leaf (.one (.seq (some [6]) .leaf (.two .leaf (.seq (some [18]) .leaf (.two .leaf (.seq (some [23]) .leaf .leaf))))))) .leaf)) [p0,p1] bl Tryz.func155 (by kernel_rfl) (by kernel_rfl) h


/- loop.example/prologserver/spec.l2Level : function 156 -/
def nJ (p0:Value) (w:World) (R:Ending->World->Prop):Prop:=
 (∃ a:Value->World->Prop,(
 RR (au .eql 9 false true p0 (.string ⟨#[61]⟩)) w fun b c=>
 CondV b (
 a b c) (
 RR (au .eql 9 false true p0 (.string ⟨#[92,61]⟩)) c fun b c=>
 CondV b (
 a b c) (
 RR (au .eql 9 false true p0 (.string ⟨#[61,61]⟩)) c fun b c=>
 CondV b (
 a b c) (
 RR (au .eql 9 false true p0 (.string ⟨#[60]⟩)) c fun b c=>
 CondV b (
 a b c) (
 RR (au .eql 9 false true p0 (.string ⟨#[62]⟩)) c fun b c=>
 CondV b (
 a b c) (
 RR (au .eql 9 false true p0 (.string ⟨#[61,60]⟩)) c fun b c=>
 CondV b (
 a b c) (
 RR (au .eql 9 false true p0 (.string ⟨#[62,61]⟩)) c fun b c=>
 CondV b (
 a b c) (
 RR (au .eql 9 false true p0 (.string ⟨#[61,58,61]⟩)) c fun b c=>
 CondV b (
 a b c) (
 RR (au .eql 9 false true p0 (.string ⟨#[105,115]⟩)) c fun b c=>
 a b c)))))))))/\
 ∀ _ _ _ _ _ _ _ _ b _:Value,∀ c:World,a b c->
 CondV b (
 R (.returned (.int .i64 3)) c) (
 (∃ a:Value->World->Prop,(
 RR (au .eql 9 false true p0 (.string ⟨#[43]⟩)) c fun b c=>
 CondV b (
 a b c) (
 RR (au .eql 9 false true p0 (.string ⟨#[45]⟩)) c fun b c=>
 a b c))/\
 ∀ _ b _:Value,∀ c:World,a b c->
 CondV b (
 R (.returned (.int .i64 2)) c) (
 (∃ a:Value->World->Prop,(
 RR (au .eql 9 false true p0 (.string ⟨#[42]⟩)) c fun b c=>
 CondV b (
 a b c) (
 RR (au .eql 9 false true p0 (.string ⟨#[47,47]⟩)) c fun b c=>
 CondV b (
 a b c) (
 RR (au .eql 9 false true p0 (.string ⟨#[109,111,100]⟩)) c fun b c=>
 a b c)))/\
 ∀ _ _ b _:Value,∀ c:World,a b c->
 CondV b (
 R (.returned (.int .i64 1)) c) (
 R (.returned (.int .i64 0)) c))))))
theorem rP {p0:Value} {w:World} {R:Ending->World->Prop} (h:nJ p0 w R):Calls Tryz.prog 156 #[p0] w R:=
  aL (.seq none .leaf (.seq none (.seq none .leaf (.one (.seq (some [4]) .leaf (.two .leaf (.seq (some [14]) .leaf (.two .leaf (.seq (some [17]) .leaf .leaf))))))) .leaf)) [p0] bl Tryz.func156 (by kernel_rfl) (by kernel_rfl) h


/- loop.example/prologserver/impl.NameValid : function 157 -/
def lh (p0:Value) (w:World) (R:Ending->World->Prop):Prop:=
 RR (ay (.func (.func 119) #[] #[]) [p0]) w fun a b=>
 ah a false (
 RR (ay (.func (.func 178) #[] #[]) []) b fun b c=>
 RR (ay (.func (.func 177) #[] #[]) [b,p0]) c fun b c=>
 RR (sOp (.pick (.const a) (.const (.bool true)) (.const b)) 4) c fun a b=>
 R (.returned a) b) (
 RR (sOp (.pick (.const a) (.const (.bool true)) (.const undef)) 4) b fun a b=>
 R (.returned a) b)
theorem pt {p0:Value} {w:World} {R:Ending->World->Prop} (h:lh p0 w R):Calls Tryz.prog 157 #[p0] w R:=
  aL .leaf [p0] bl Tryz.func157 (by kernel_rfl) (by kernel_rfl) h


/- loop.example/prologserver/impl.scan$1 : function 158 -/
def rA (p0 p1 p2:Value) (w:World) (R:Ending->World->Prop):Prop:=
 RR (sOp (.box 32 (.const p0)) 0) w fun a b=>
 RR (sOp (.load 32 (.const a)) 32) b fun a b=>
 RR (sOp (.load 3 (.const p1)) 3) b fun b c=>
 RR (au .add 3 false true b (.int .i64 1)) c fun b c=>
 RR (sOp (.load 111 (.const p2)) 111) c fun c d=>
 RR (ay (.func (.func 118) #[] #[]) [a,b,c]) d fun a b=>
 RR (sOp (.unOp .not 4 (.const a)) 4) b fun a b=>
 R (.returned a) b
theorem tz {p0 p1 p2:Value} {w:World} {R:Ending->World->Prop} (h:rA p0 p1 p2 w R):Calls Tryz.prog 158 #[p0,p1,p2] w R:=
  aL .leaf [p0,p1,p2] bl Tryz.func158 (by kernel_rfl) (by kernel_rfl) h


/- loop.example/prologserver/impl.OpLevel : function 159 -/
def o5 (p0:Value) (w:World) (R:Ending->World->Prop):Prop:=
 (∃ a:Value->World->Prop,(
 RR (au .eql 9 false true p0 (.string ⟨#[61]⟩)) w fun b c=>
 CondV b (
 a b c) (
 RR (au .eql 9 false true p0 (.string ⟨#[92,61]⟩)) c fun b c=>
 CondV b (
 a b c) (
 RR (au .eql 9 false true p0 (.string ⟨#[61,61]⟩)) c fun b c=>
 CondV b (
 a b c) (
 RR (au .eql 9 false true p0 (.string ⟨#[60]⟩)) c fun b c=>
 CondV b (
 a b c) (
 RR (au .eql 9 false true p0 (.string ⟨#[62]⟩)) c fun b c=>
 CondV b (
 a b c) (
 RR (au .eql 9 false true p0 (.string ⟨#[61,60]⟩)) c fun b c=>
 CondV b (
 a b c) (
 RR (au .eql 9 false true p0 (.string ⟨#[62,61]⟩)) c fun b c=>
 CondV b (
 a b c) (
 RR (au .eql 9 false true p0 (.string ⟨#[61,58,61]⟩)) c fun b c=>
 CondV b (
 a b c) (
 RR (au .eql 9 false true p0 (.string ⟨#[105,115]⟩)) c fun b c=>
 a b c)))))))))/\
 ∀ _ _ _ _ _ _ _ _ b _:Value,∀ c:World,a b c->
 CondV b (
 R (.returned (.tuple #[(.int .i64 3),(.bool false)])) c) (
 (∃ a:Value->World->Prop,(
 RR (au .eql 9 false true p0 (.string ⟨#[43]⟩)) c fun b c=>
 CondV b (
 a b c) (
 RR (au .eql 9 false true p0 (.string ⟨#[45]⟩)) c fun b c=>
 a b c))/\
 ∀ _ b _:Value,∀ c:World,a b c->
 CondV b (
 R (.returned (.tuple #[(.int .i64 2),(.bool true)])) c) (
 (∃ a:Value->World->Prop,(
 RR (au .eql 9 false true p0 (.string ⟨#[42]⟩)) c fun b c=>
 CondV b (
 a b c) (
 RR (au .eql 9 false true p0 (.string ⟨#[47,47]⟩)) c fun b c=>
 CondV b (
 a b c) (
 RR (au .eql 9 false true p0 (.string ⟨#[109,111,100]⟩)) c fun b c=>
 a b c)))/\
 ∀ _ _ b _:Value,∀ c:World,a b c->
 CondV b (
 R (.returned (.tuple #[(.int .i64 1),(.bool true)])) c) (
 R (.returned (.tuple #[(.int .i64 0),(.bool false)])) c))))))
theorem sm {p0:Value} {w:World} {R:Ending->World->Prop} (h:o5 p0 w R):Calls Tryz.prog 159 #[p0] w R:=
  aL (.seq none .leaf (.seq none (.seq none .leaf (.one (.seq (some [5]) .leaf (.two .leaf (.seq (some [15]) .leaf (.two .leaf (.seq (some [18]) .leaf .leaf))))))) .leaf)) [p0] bl Tryz.func159 (by kernel_rfl) (by kernel_rfl) h


/- loop.example/prologserver/impl.IsBuiltin : function 160 -/
def lR (p0 p1:Value) (w:World) (R:Ending->World->Prop):Prop:=
 (∃ a:Value->World->Prop,(
 RR (au .eql 9 false true p0 (.string ⟨#[61]⟩)) w fun b c=>
 CondV b (
 a b c) (
 RR (au .eql 9 false true p0 (.string ⟨#[92,61]⟩)) c fun b c=>
 CondV b (
 a b c) (
 RR (au .eql 9 false true p0 (.string ⟨#[61,61]⟩)) c fun b c=>
 CondV b (
 a b c) (
 RR (au .eql 9 false true p0 (.string ⟨#[60]⟩)) c fun b c=>
 CondV b (
 a b c) (
 RR (au .eql 9 false true p0 (.string ⟨#[62]⟩)) c fun b c=>
 CondV b (
 a b c) (
 RR (au .eql 9 false true p0 (.string ⟨#[61,60]⟩)) c fun b c=>
 CondV b (
 a b c) (
 RR (au .eql 9 false true p0 (.string ⟨#[62,61]⟩)) c fun b c=>
 CondV b (
 a b c) (
 RR (au .eql 9 false true p0 (.string ⟨#[61,58,61]⟩)) c fun b c=>
 CondV b (
 a b c) (
 RR (au .eql 9 false true p0 (.string ⟨#[105,115]⟩)) c fun b c=>
 a b c)))))))))/\
 ∀ _ _ _ _ _ _ _ _ b _:Value,∀ c:World,a b c->
 CondV b (
 RR (au .eql 3 false true p1 (.int .i64 2)) c fun a b=>
 R (.returned a) b) (
 (∃ a:Value->World->Prop,(
 RR (au .eql 9 false true p0 (.string ⟨#[116,114,117,101]⟩)) c fun b c=>
 CondV b (
 a b c) (
 RR (au .eql 9 false true p0 (.string ⟨#[102,97,105,108]⟩)) c fun b c=>
 a b c))/\
 ∀ _ b _:Value,∀ c:World,a b c->
 CondV b (
 RR (au .eql 3 false true p1 (.int .i64 0)) c fun a b=>
 R (.returned a) b) (
 (∃ a:Value->World->Prop,(
 RR (au .eql 9 false true p0 (.string ⟨#[118,97,114]⟩)) c fun b c=>
 CondV b (
 a b c) (
 RR (au .eql 9 false true p0 (.string ⟨#[110,111,110,118,97,114]⟩)) c fun b c=>
 CondV b (
 a b c) (
 RR (au .eql 9 false true p0 (.string ⟨#[97,116,111,109]⟩)) c fun b c=>
 CondV b (
 a b c) (
 RR (au .eql 9 false true p0 (.string ⟨#[105,110,116]⟩)) c fun b c=>
 a b c))))/\
 ∀ _ _ _ b _:Value,∀ c:World,a b c->
 CondV b (
 RR (au .eql 3 false true p1 (.int .i64 1)) c fun a b=>
 R (.returned a) b) (
 RR (au .eql 9 false true p0 (.string ⟨#[97,114,103]⟩)) c fun a b=>
 CondV a (
 RR (au .eql 3 false true p1 (.int .i64 3)) b fun a b=>
 R (.returned a) b) (
 R (.returned (.bool false)) b)))))))
theorem ov {p0 p1:Value} {w:World} {R:Ending->World->Prop} (h:lR p0 p1 w R):Calls Tryz.prog 160 #[p0,p1] w R:=
  aL (.seq none .leaf (.seq none (.seq none .leaf (.one (.seq (some [6]) .leaf (.two .leaf (.seq (some [18]) .leaf (.two .leaf (.seq (some [23]) .leaf .leaf))))))) .leaf)) [p0,p1] bl Tryz.func160 (by kernel_rfl) (by kernel_rfl) h


/- slices.IndexFunc[[]loop.example/prologserver/impl.Term,loop.example/prologserver/impl.Term] : function 161 -/
def gR (p0 p1:Value) (w:World) (R:Ending->World->Prop):Prop:=
 RR (aA .len #[30] 3 [false] [p0]) w fun a b=>
 (∃ (c:Value->World->Prop) (d:Value->World->Nat),c (.int .i64 0) b/\
 ∀ b _ _ _ _ _ _ _ _ _ _ _ _:Value,∀ e:World,c b e->
 RR (au .lss 3 false false b a) e fun a f=>
 CondV a (
 RR (sOp (.indexAddr 30 (.const p0) (.const b)) 0) f fun a f=>
 RR (sOp (.load 32 (.const a)) 32) f fun a f=>
 RR (ay p1 [a]) f fun a f=>
 CondV a (
 R (.returned b) f) (
 RR (au .add 3 false true b (.int .i64 1)) f fun a f=>
 c a f/\d a f<d b e)) (
 R (.returned (.int .i64 (-1))) f))
theorem j0 {p0 p1:Value} {w:World} {R:Ending->World->Prop} (h:gR p0 p1 w R):Calls Tryz.prog 161 #[p0,p1] w R:=
  aL (.seq none .leaf (.seq none (.seq none .leaf (.one (.loop [8] .leaf))) .leaf)) [p0,p1] bl Tryz.func161 (by kernel_rfl) (by kernel_rfl) h


/- loop.example/prologserver/spec.l2Read : function 162 -/
def qD (p0 p1 p2 p3:Value) (w:World) (R:Ending->World->Prop):Prop:=
 RR (sOp (.alloc 32) 0) w fun a b=>
 RR (au .eql 3 false true p3 (.int .i64 0)) b fun b c=>
 CondV b (
 RR (ay (.func (.func 179) #[] #[]) [p0,p1,p2]) c fun b c=>
 RR (sOp (.extract (.const b) 0) 32) c fun c d=>
 RR (sOp (.extract (.const b) 1) 3) d fun b d=>
 RR (sOp (.store 32 (.const a) (.const c)) 0) d fun _ c=>
 (ba Tryz.prog 32 a c fun a=>R (.returned (.tuple #[a,b])) c)) (
 RR (au .sub 3 false true p3 (.int .i64 1)) c fun b c=>
 RR (ay (.func (.func 162) #[] #[]) [p0,p1,p2,b]) c fun b c=>
 RR (sOp (.extract (.const b) 0) 32) c fun c d=>
 RR (sOp (.extract (.const b) 1) 3) d fun b d=>
 RR (sOp (.alloc 32) 0) d fun d e=>
 RR (sOp (.store 32 (.const d) (.const c)) 0) e fun _ c=>
 (∃ (e:Value->World->Prop) (f:Value->World->Nat),e b c/\
 ∀ _ _ _ _ b _ _ _ _ _ _ _ _ _ _ _ _ _ _ _ _ _ _ _ _ _ _ _ _ _ _ _ _ _ _ _ _ _ _ _ _ _ _ _ _ _ _:Value,∀ c:World,e b c->
 RR (au .geq 3 false true b (.int .i64 0)) c fun g h=>
 CondV g (
 RR (ay (.func (.func 180) #[] #[]) [p0,b]) h fun g h=>
 RR (sOp (.extract (.const g) 0) 9) h fun h i=>
 RR (sOp (.extract (.const g) 1) 3) i fun g i=>
 (∃ j:Value->World->Prop,(
 RR (au .eql 9 false true h (.string ⟨#[]⟩)) i fun a b=>
 ah a false (
 RR (ay (.func (.func 156) #[] #[]) [h]) b fun b c=>
 RR (au .neq 3 false false b p3) c fun b c=>
 RR (sOp (.pick (.const a) (.const (.bool true)) (.const b)) 4) c fun a b=>
 j a b) (
 RR (sOp (.pick (.const a) (.const (.bool true)) (.const undef)) 4) b fun a b=>
 j a b))/\
 ∀ i _ _ _ _ _ _ _:Value,∀ k:World,j i k->
 CondV i (
 RR (sOp (.load 32 (.const d)) 32) k fun c d=>
 RR (sOp (.store 32 (.const a) (.const c)) 0) d fun _ c=>
 (ba Tryz.prog 32 a c fun a=>R (.returned (.tuple #[a,b])) c)) (
 RR (au .sub 3 false true p3 (.int .i64 1)) k fun i j=>
 RR (ay (.func (.func 162) #[] #[]) [p0,g,p2,i]) j fun g i=>
 RR (sOp (.extract (.const g) 0) 32) i fun i j=>
 RR (sOp (.extract (.const g) 1) 3) j fun g j=>
 RR (sOp (.alloc 32) 0) j fun j k=>
 RR (sOp (.store 32 (.const j) (.const i)) 0) k fun _ i=>
 RR (au .lss 3 false true g (.int .i64 0)) i fun i k=>
 CondV i (
 RR (cg 32 []) k fun b c=>
 RR (sOp (.store 32 (.const a) (.const b)) 0) c fun _ b=>
 (ba Tryz.prog 32 a b fun a=>R (.returned (.tuple #[a,g])) b)) (
 RR (sOp (.load 32 (.const d)) 32) k fun i k=>
 RR (sOp (.load 32 (.const j)) 32) k fun j k=>
 RR (aR 30 2 [(0,i),(1,j)]) k fun i j=>
 RR (ay (.func (.func 106) #[] #[]) [h,i]) j fun h i=>
 RR (sOp (.store 32 (.const d) (.const h)) 0) i fun _ h=>
 RR (au .eql 3 false true p3 (.int .i64 3)) h fun h i=>
 CondV h (
 RR (sOp (.load 32 (.const d)) 32) i fun b c=>
 RR (sOp (.store 32 (.const a) (.const b)) 0) c fun _ b=>
 (ba Tryz.prog 32 a b fun a=>R (.returned (.tuple #[a,g])) b)) (
 e g i/\f g i<f b c))))) (
 RR (cg 32 []) h fun c d=>
 RR (sOp (.store 32 (.const a) (.const c)) 0) d fun _ c=>
 (ba Tryz.prog 32 a c fun a=>R (.returned (.tuple #[a,b])) c))))
theorem uj {p0 p1 p2 p3:Value} {w:World} {R:Ending->World->Prop} (h:qD p0 p1 p2 p3 w R):Calls Tryz.prog 162 #[p0,p1,p2,p3] w R:=
  aL (.seq none .leaf (.seq none .leaf (.seq none .leaf (.seq none (.one (.loop [11] (.seq none .leaf (.one (.seq none .leaf (.seq none (.seq (some [48]) .leaf .leaf) .leaf)))))) .leaf)))) [p0,p1,p2,p3] bl Tryz.func162 (by kernel_rfl) (by kernel_rfl) h


/- loop.example/prologserver/spec.l1Sign : function 163 -/
def qW (p0 p1 p2:Value) (w:World) (R:Ending->World->Prop):Prop:=
 RR (au .geq 3 false true p1 (.int .i64 0)) w fun a b=>
 ((fun c:VW=>ah a true (
 RR (aA .len #[9] 3 [false] [p0]) b fun b d=>
 RR (au .lss 3 false false p1 b) d fun b d=>
 RR (sOp (.pick (.const a) (.const b) (.const (.bool false))) 4) d fun a b=>c a b) (
 RR (sOp (.pick (.const a) (.const undef) (.const (.bool false))) 4) b fun a b=>c a b)) fun a b=>
 ah a true (
 RR (sOp (.index 9 (.const p0) (.const p1)) 5) b fun b c=>
 RR (au .eql 5 false false b p2) c fun b c=>
 RR (sOp (.pick (.const a) (.const b) (.const (.bool false))) 4) c fun a b=>
 R (.returned a) b) (
 RR (sOp (.pick (.const a) (.const undef) (.const (.bool false))) 4) b fun a b=>
 R (.returned a) b))
theorem td {p0 p1 p2:Value} {w:World} {R:Ending->World->Prop} (h:qW p0 p1 p2 w R):Calls Tryz.prog 163 #[p0,p1,p2] w R:=
  aL .leaf [p0,p1,p2] bl Tryz.func163 (by kernel_rfl) (by kernel_rfl) h


/- loop.example/prologserver/spec.l4Goals : function 164 -/
def pn (p0 p1:Value) (w:World) (R:Ending->World->Prop):Prop:=
 RR (aR 30 0 []) w fun a b=>
 (∃ (c:Value->Value->World->Prop) (d:Value->Value->World->Nat),c p1 a b/\
 ∀ a _ _ _ _ _ _ _ _ b _ _ _ _ _ _ _ _ _ _ _ _ _ _ _ _ _ _ _:Value,∀ e:World,c a b e->
 RR (aA .len #[30] 3 [false] [b]) e fun f g=>
 RR (au .leq 3 false true f (.int .i64 6)) g fun f g=>
 CondV f (
 RR (ay (.func (.func 162) #[] #[]) [p0,a,(.int .i64 30),(.int .i64 3)]) g fun f g=>
 RR (sOp (.extract (.const f) 0) 32) g fun g h=>
 RR (sOp (.extract (.const f) 1) 3) h fun f h=>
 RR (sOp (.alloc 32) 0) h fun h i=>
 RR (sOp (.store 32 (.const h) (.const g)) 0) i fun _ g=>
 RR (au .lss 3 false true f (.int .i64 0)) g fun g i=>
 CondV g (
 R (.returned (.tuple #[(Value.slice none 0 0),(.int .i64 (-1))])) i) (
 RR (sOp (.load 32 (.const h)) 32) i fun g h=>
 RR (aR 30 1 [(0,g)]) h fun g h=>
 RR (aA .append #[30,30] 30 [false,false] [b,g]) h fun g h=>
 RR (ay (.func (.func 163) #[] #[]) [p0,f,(.int .u8 44)]) h fun h i=>
 RR (sOp (.unOp .not 4 (.const h)) 4) i fun h i=>
 CondV h (
 R (.returned (.tuple #[g,f])) i) (
 RR (au .add 3 false true f (.int .i64 1)) i fun f h=>
 c f g h/\d f g h<d a b e))) (
 R (.returned (.tuple #[(Value.slice none 0 0),(.int .i64 (-1))])) g))
theorem sv {p0 p1:Value} {w:World} {R:Ending->World->Prop} (h:pn p0 p1 w R):Calls Tryz.prog 164 #[p0,p1] w R:=
  aL (.seq none .leaf (.seq none .leaf (.seq none (.one (.loop [1,6] .leaf)) .leaf))) [p0,p1] bl Tryz.func164 (by kernel_rfl) (by kernel_rfl) h


/- loop.example/prologserver/spec.FormatClause : function 165 -/
def i6 (p0:Value) (w:World) (R:Ending->World->Prop):Prop:=
 RR (sOp (.box 34 (.const p0)) 0) w fun a b=>
 RR (sOp (.load 34 (.const a)) 34) b fun b c=>
 RR (ay (.func (.func 64) #[] #[]) [b]) c fun b c=>
 RR (sOp (.unOp .not 4 (.const b)) 4) c fun b c=>
 CondV b (
 R (.returned (.string ⟨#[]⟩)) c) (
 RR (sOp (.load 34 (.const a)) 34) c fun a b=>
 RR (ay (.func (.func 181) #[] #[]) [a]) b fun a b=>
 R (.returned a) b)
theorem lS {p0:Value} {w:World} {R:Ending->World->Prop} (h:i6 p0 w R):Calls Tryz.prog 165 #[p0] w R:=
  aL .leaf [p0] bl Tryz.func165 (by kernel_rfl) (by kernel_rfl) h


/- loop.example/prologserver/spec.l1Vars : function 166 -/
def rE (p0 p1:Value) (w:World) (R:Ending->World->Prop):Prop:=
 RR (sOp (.box 32 (.const p1)) 0) w fun a b=>
 RR (sOp (.fieldAddr 32 (.const a) 0) 0) b fun b c=>
 RR (sOp (.load 3 (.const b)) 3) c fun b c=>
 RR (au .eql 3 false true b (.int .i64 1)) c fun b c=>
 CondV b (
 (∃ (b:Value->World->Prop) (d:Value->World->Nat),b (.int .i64 0) c/\
 ∀ c _ _ _ _ e f g h i j k _ _ _ _:Value,∀ l:World,b c l->
 RR (aA .len #[63] 3 [false] [p0]) l fun m n=>
 RR (au .lss 3 false false c m) n fun m n=>
 CondV m (
 (∃ m:(Nat->Bool)->Value->Value->Value->Value->Value->Value->Value->World->Prop,m (fun _=>false) e f g h i j k { n with drawn:=n.drawn+1 }/\(
 (∀ a:Nat->Bool,a 0=false->∀ b c d e f g h i,m a b c d e f g h i->
 m (av a 0) b c d e f g p0 i)/\
 (∀ a:Nat->Bool,a 1=false->∀ b d e f g h i j,m a b d e f g h i j->
 m (av a 1) b d e f g c i j)/\
 (∀ a:Nat->Bool,a 2=false->a 0=true->a 1=true->∀ b c d e f g h i,m a b c d e f g h i->
 RR (sOp (.indexAddr 63 (.const h) (.const g)) 0) i fun f i=>
 m (av a 2) b c d e f g h i)/\
 (∀ a:Nat->Bool,a 3=false->a 2=true->∀ b c d e f g h i,m a b c d e f g h i->
 RR (sOp (.load 3 (.const f)) 3) i fun e i=>
 m (av a 3) b c d e f g h i)/\
 (∀ b:Nat->Bool,b 4=false->∀ c d e f g h i j,m b c d e f g h i j->
 RR (sOp (.fieldAddr 32 (.const a) 1) 0) j fun a e=>
 m (av b 4) c d a f g h i e)/\
 (∀ a:Nat->Bool,a 5=false->a 4=true->∀ b c d e f g h i,m a b c d e f g h i->
 RR (sOp (.load 3 (.const d)) 3) i fun c i=>
 m (av a 5) b c d e f g h i)/\
 (∀ a:Nat->Bool,a 6=false->a 3=true->a 5=true->∀ b c d e f g h i,m a b c d e f g h i->
 RR (au .eql 3 false false e c) i fun b i=>
 m (av a 6) b c d e f g h i)/\
 True)/\
 ∀ a:Nat->Bool,a 6=true->a 5=true->a 4=true->a 3=true->a 2=true->a 1=true->a 0=true->∀ e f g h i j k n,m a e f g h i j k n->
 CondV e (
 R (.returned p0) n) (
 RR (au .add 3 false true c (.int .i64 1)) n fun a e=>
 b a e/\d a e<d c l))) (
 RR (sOp (.fieldAddr 32 (.const a) 1) 0) n fun a b=>
 RR (sOp (.load 3 (.const a)) 3) b fun a b=>
 RR (aR 63 1 [(0,a)]) b fun a b=>
 RR (aA .append #[63,63] 63 [false,false] [p0,a]) b fun a b=>
 R (.returned a) b))) (
 (∃ (b:Value->Value->World->Prop) (d:Value->Value->World->Nat),b (.int .i64 0) p0 c/\
 ∀ c _ _ e _ _ _ _ _ _ _ _ _ _ _ _:Value,∀ f:World,b c e f->
 RR (sOp (.fieldAddr 32 (.const a) 3) 0) f fun g h=>
 RR (sOp (.load 30 (.const g)) 30) h fun g h=>
 RR (aA .len #[30] 3 [false] [g]) h fun g h=>
 RR (au .lss 3 false false c g) h fun g h=>
 CondV g (
 RR (sOp (.fieldAddr 32 (.const a) 3) 0) h fun a g=>
 RR (sOp (.load 30 (.const a)) 30) g fun a g=>
 RR (sOp (.indexAddr 30 (.const a) (.const c)) 0) g fun a g=>
 RR (sOp (.load 32 (.const a)) 32) g fun a g=>
 RR (ay (.func (.func 166) #[] #[]) [e,a]) g fun a g=>
 RR (au .add 3 false true c (.int .i64 1)) g fun g h=>
 b g a h/\d g a h<d c e f) (
 R (.returned e) h)))
theorem uq {p0 p1:Value} {w:World} {R:Ending->World->Prop} (h:rE p0 p1 w R):Calls Tryz.prog 166 #[p0,p1] w R:=
  aL (.seq none .leaf (.seq none (.seq none .leaf (.two (.seq none (.seq none .leaf (.one (.loop [5] .leaf))) .leaf) .leaf)) (.seq none (.seq none .leaf (.one (.loop [6,0] .leaf))) .leaf))) [p0,p1] bl Tryz.func166 (by kernel_rfl) (by kernel_rfl) h


/- loop.example/prologserver/spec.l1Rename : function 167 -/
def mg (p0 p1:Value) (w:World) (R:Ending->World->Prop):Prop:=
 RR (sOp (.box 32 (.const p0)) 0) w fun a b=>
 RR (sOp (.alloc 32) 0) b fun b c=>
 RR (sOp (.fieldAddr 32 (.const a) 0) 0) c fun c d=>
 RR (sOp (.load 3 (.const c)) 3) d fun c d=>
 RR (sOp (.fieldAddr 32 (.const a) 1) 0) d fun d e=>
 RR (sOp (.load 3 (.const d)) 3) e fun d e=>
 RR (sOp (.fieldAddr 32 (.const a) 2) 0) e fun e f=>
 RR (sOp (.load 9 (.const e)) 9) f fun e f=>
 RR (cg 32 [(0,c),(1,d),(2,e)]) f fun c d=>
 RR (sOp (.alloc 32) 0) d fun d e=>
 RR (sOp (.store 32 (.const d) (.const c)) 0) e fun _ c=>
 (∃ (e:Value->World->Prop) (f:Value->World->Nat),e (.int .i64 0) c/\
 ∀ c _ _ _ _ g h i j k l m _ _ _ _ _ _ _ _ _:Value,∀ n:World,e c n->
 (∃ o:Value->World->Prop,(
 RR (aA .len #[63] 3 [false] [p1]) n fun b d=>
 RR (au .lss 3 false false c b) d fun b c=>
 ah b true (
 RR (sOp (.fieldAddr 32 (.const a) 0) 0) c fun a c=>
 RR (sOp (.load 3 (.const a)) 3) c fun a c=>
 RR (au .eql 3 false true a (.int .i64 1)) c fun a c=>
 RR (sOp (.pick (.const b) (.const a) (.const (.bool false))) 4) c fun a b=>
 o a b) (
 RR (sOp (.pick (.const b) (.const undef) (.const (.bool false))) 4) c fun a b=>
 o a b))/\
 ∀ p _ _ _ _ _ _ _ _:Value,∀ q:World,o p q->
 CondV p (
 (∃ b:World->Prop,(
 (∃ e:(Nat->Bool)->Value->Value->Value->Value->Value->Value->Value->World->Prop,e (fun _=>false) g h i j k l m { q with drawn:=q.drawn+1 }/\(
 (∀ a:Nat->Bool,a 0=false->∀ b c d f g h i j,e a b c d f g h i j->
 e (av a 0) b c d f g h p1 j)/\
 (∀ a:Nat->Bool,a 1=false->∀ b d f g h i j k,e a b d f g h i j k->
 e (av a 1) b d f g h c j k)/\
 (∀ a:Nat->Bool,a 2=false->a 0=true->a 1=true->∀ b c d f g h i j,e a b c d f g h i j->
 RR (sOp (.indexAddr 63 (.const i) (.const h)) 0) j fun g j=>
 e (av a 2) b c d f g h i j)/\
 (∀ a:Nat->Bool,a 3=false->a 2=true->∀ b c d f g h i j,e a b c d f g h i j->
 RR (sOp (.load 3 (.const g)) 3) j fun f j=>
 e (av a 3) b c d f g h i j)/\
 (∀ b:Nat->Bool,b 4=false->∀ c d f g h i j k,e b c d f g h i j k->
 RR (sOp (.fieldAddr 32 (.const a) 1) 0) k fun a f=>
 e (av b 4) c d a g h i j f)/\
 (∀ a:Nat->Bool,a 5=false->a 4=true->∀ b c d f g h i j,e a b c d f g h i j->
 RR (sOp (.load 3 (.const d)) 3) j fun c j=>
 e (av a 5) b c d f g h i j)/\
 (∀ a:Nat->Bool,a 6=false->a 3=true->a 5=true->∀ b c d f g h i j,e a b c d f g h i j->
 RR (au .eql 3 false false f c) j fun b j=>
 e (av a 6) b c d f g h i j)/\
 True)/\
 ∀ a:Nat->Bool,a 6=true->a 5=true->a 4=true->a 3=true->a 2=true->a 1=true->a 0=true->∀ f g h i j k l m,e a f g h i j k l m->
 CondV f (
 RR (sOp (.fieldAddr 32 (.const d) 1) 0) m fun a d=>
 RR (sOp (.store 3 (.const a) (.const c)) 0) d fun _ a=>
 b a) (
 b m)))/\
 ∀ _ _ _ _ _ _ _ _ _:Value,∀ a:World,b a->
 RR (au .add 3 false true c (.int .i64 1)) a fun a b=>
 e a b/\f a b<f c n)) (
 (∃ (c:Value->World->Prop) (e:Value->World->Nat),c (.int .i64 0) q/\
 ∀ f _ _ g h i j k l m n o p q r _ _ _ _ _:Value,∀ s:World,c f s->
 RR (sOp (.fieldAddr 32 (.const a) 3) 0) s fun t u=>
 RR (sOp (.load 30 (.const t)) 30) u fun t u=>
 RR (aA .len #[30] 3 [false] [t]) u fun t u=>
 RR (au .lss 3 false false f t) u fun t u=>
 CondV t (
 (∃ b:(Nat->Bool)->Value->Value->Value->Value->Value->Value->Value->Value->Value->Value->Value->Value->World->Prop,b (fun _=>false) g h i j k l m n o p q r { u with drawn:=u.drawn+1 }/\(
 (∀ a:Nat->Bool,a 0=false->∀ c e f g h i j k l m n o p,b a c e f g h i j k l m n o p->
 RR (sOp (.fieldAddr 32 (.const d) 3) 0) p fun d o=>
 b (av a 0) c e f g h i j k l m n d o)/\
 (∀ a:Nat->Bool,a 1=false->a 0=true->∀ c d e f g h i j k l m n o,b a c d e f g h i j k l m n o->
 RR (sOp (.load 30 (.const n)) 30) o fun m o=>
 b (av a 1) c d e f g h i j k l m n o)/\
 (∀ c:Nat->Bool,c 2=false->∀ d e f g h i j k l m n o p,b c d e f g h i j k l m n o p->
 RR (sOp (.fieldAddr 32 (.const a) 3) 0) p fun a m=>
 b (av c 2) d e f g h i j k l a n o m)/\
 (∀ a:Nat->Bool,a 3=false->a 2=true->∀ c d e f g h i j k l m n o,b a c d e f g h i j k l m n o->
 RR (sOp (.load 30 (.const l)) 30) o fun k o=>
 b (av a 3) c d e f g h i j k l m n o)/\
 (∀ a:Nat->Bool,a 4=false->∀ c d e g h i j k l m n o p,b a c d e g h i j k l m n o p->
 b (av a 4) c d e g h i j f l m n o p)/\
 (∀ a:Nat->Bool,a 5=false->a 3=true->a 4=true->∀ c d e f g h i j k l m n o,b a c d e f g h i j k l m n o->
 RR (sOp (.indexAddr 30 (.const k) (.const j)) 0) o fun i o=>
 b (av a 5) c d e f g h i j k l m n o)/\
 (∀ a:Nat->Bool,a 6=false->a 5=true->∀ c d e f g h i j k l m n o,b a c d e f g h i j k l m n o->
 RR (sOp (.load 32 (.const i)) 32) o fun h o=>
 b (av a 6) c d e f g h i j k l m n o)/\
 (∀ a:Nat->Bool,a 7=false->∀ c d e f g h i j k l m n o,b a c d e f g h i j k l m n o->
 b (av a 7) c d e f p1 h i j k l m n o)/\
 (∀ a:Nat->Bool,a 8=false->a 6=true->a 7=true->∀ c d e f g h i j k l m n o,b a c d e f g h i j k l m n o->
 RR (ay (.func (.func 167) #[] #[]) [h,g]) o fun f o=>
 b (av a 8) c d e f g h i j k l m n o)/\
 (∀ a:Nat->Bool,a 9=false->a 8=true->∀ c d e f g h i j k l m n o,b a c d e f g h i j k l m n o->
 RR (aR 30 1 [(0,f)]) o fun e o=>
 b (av a 9) c d e f g h i j k l m n o)/\
 (∀ a:Nat->Bool,a 10=false->a 1=true->a 9=true->a 8=true->∀ c d e f g h i j k l m n o,b a c d e f g h i j k l m n o->
 RR (aA .append #[30,30] 30 [false,false] [m,e]) o fun d o=>
 b (av a 10) c d e f g h i j k l m n o)/\
 (∀ a:Nat->Bool,a 11=false->a 0=true->a 1=true->a 2=true->a 3=true->a 4=true->a 5=true->a 6=true->a 7=true->a 8=true->a 9=true->a 10=true->∀ c e f g h i j k l m n o p,b a c e f g h i j k l m n o p->
 RR (sOp (.fieldAddr 32 (.const d) 3) 0) p fun c d=>
 b (av a 11) c e f g h i j k l m n o d)/\
 (∀ a:Nat->Bool,a 12=false->a 11=true->a 10=true->a 10=true->a 0=true->a 1=true->a 2=true->a 3=true->a 4=true->a 5=true->a 6=true->a 7=true->a 8=true->a 9=true->a 10=true->∀ c d e f g h i j k l m n o,b a c d e f g h i j k l m n o->
 RR (sOp (.store 30 (.const c) (.const d)) 0) o fun _ o=>
 b (av a 12) c d e f g h i j k l m n o)/\
 True)/\
 ∀ a:Nat->Bool,a 12=true->a 11=true->a 10=true->a 9=true->a 8=true->a 7=true->a 6=true->a 5=true->a 4=true->a 3=true->a 2=true->a 1=true->a 0=true->∀ d g h i j k l m n o p q r,b a d g h i j k l m n o p q r->
 RR (au .add 3 false true f (.int .i64 1)) r fun a b=>
 c a b/\e a b<e f s)) (
 RR (sOp (.load 32 (.const d)) 32) u fun a c=>
 RR (sOp (.store 32 (.const b) (.const a)) 0) c fun _ a=>
 (ba Tryz.prog 32 b a fun b=>R (.returned b) a))))))
theorem qg {p0 p1:Value} {w:World} {R:Ending->World->Prop} (h:mg p0 p1 w R):Calls Tryz.prog 167 #[p0,p1] w R:=
  aL (.seq none .leaf (.seq none .leaf (.seq none (.seq none .leaf (.one (.loop [6] (.seq none (.seq (some [23]) .leaf .leaf) (.seq (some []) .leaf .leaf))))) (.seq none (.seq none .leaf (.one (.loop [7] .leaf))) .leaf)))) [p0,p1] bl Tryz.func167 (by kernel_rfl) (by kernel_rfl) h


/- loop.example/prologserver/impl.addVars : function 168 -/
def oR (p0 p1:Value) (w:World) (R:Ending->World->Prop):Prop:=
 RR (sOp (.box 32 (.const p0)) 0) w fun a b=>
 (∃ c:Value->World->Prop,(
 (∃ d:Value->World->Prop,(
 RR (sOp (.fieldAddr 32 (.const a) 0) 0) b fun b c=>
 RR (sOp (.load 3 (.const b)) 3) c fun b c=>
 RR (au .eql 3 false true b (.int .i64 1)) c fun b c=>
 ah b true (
 RR (sOp (.fieldAddr 32 (.const a) 1) 0) c fun a c=>
 RR (sOp (.load 3 (.const a)) 3) c fun a c=>
 RR (ay (.func (.func 99) #[] #[]) [p1,a]) c fun a c=>
 RR (sOp (.unOp .not 4 (.const a)) 4) c fun a c=>
 RR (sOp (.pick (.const b) (.const a) (.const (.bool false))) 4) c fun a b=>
 d a b) (
 RR (sOp (.pick (.const b) (.const undef) (.const (.bool false))) 4) c fun a b=>
 d a b))/\
 ∀ b _ _ _ _ _ _ _ _ _:Value,∀ e:World,d b e->
 CondV b (
 RR (sOp (.fieldAddr 32 (.const a) 1) 0) e fun a b=>
 RR (sOp (.load 3 (.const a)) 3) b fun a b=>
 RR (aR 63 1 [(0,a)]) b fun a b=>
 RR (aA .append #[63,63] 63 [false,false] [p1,a]) b fun a b=>
 c a b) (
 c p1 e)))/\
 ∀ b _ _ _ _ _ _ _ _ _ _ _ _ _ _ _:Value,∀ d:World,c b d->
 RR (sOp (.fieldAddr 32 (.const a) 3) 0) d fun a c=>
 RR (sOp (.load 30 (.const a)) 30) c fun a c=>
 RR (aA .len #[30] 3 [false] [a]) c fun c d=>
 (∃ (e:Value->Value->World->Prop) (f:Value->Value->World->Nat),e (.int .i64 0) b d/\
 ∀ b _ d _ _ _ _ _ _ _:Value,∀ g:World,e b d g->
 RR (au .lss 3 false false b c) g fun c h=>
 CondV c (
 RR (sOp (.indexAddr 30 (.const a) (.const b)) 0) h fun a c=>
 RR (sOp (.load 32 (.const a)) 32) c fun a c=>
 RR (sOp (.alloc 32) 0) c fun c h=>
 RR (sOp (.store 32 (.const c) (.const a)) 0) h fun _ a=>
 RR (sOp (.load 32 (.const c)) 32) a fun a c=>
 RR (ay (.func (.func 168) #[] #[]) [a,d]) c fun a c=>
 RR (au .add 3 false true b (.int .i64 1)) c fun c h=>
 e c a h/\f c a h<f b d g) (
 R (.returned d) h)))
theorem sB {p0 p1:Value} {w:World} {R:Ending->World->Prop} (h:oR p0 p1 w R):Calls Tryz.prog 168 #[p0,p1] w R:=
  aL (.seq none .leaf (.seq (some [1]) (.seq (some [16]) .leaf .leaf) (.seq none (.seq none .leaf (.one (.loop [25,1] .leaf))) .leaf))) [p0,p1] bl Tryz.func168 (by kernel_rfl) (by kernel_rfl) h


/- loop.example/prologserver/impl.isAtom : function 172 -/
def ri (p0:Value) (w:World) (R:Ending->World->Prop):Prop:=
 RR (sOp (.box 32 (.const p0)) 0) w fun a b=>
 RR (sOp (.fieldAddr 32 (.const a) 0) 0) b fun b c=>
 RR (sOp (.load 3 (.const b)) 3) c fun b c=>
 RR (au .eql 3 false true b (.int .i64 3)) c fun b c=>
 ah b true (
 RR (sOp (.fieldAddr 32 (.const a) 3) 0) c fun a c=>
 RR (sOp (.load 30 (.const a)) 30) c fun a c=>
 RR (aA .len #[30] 3 [false] [a]) c fun a c=>
 RR (au .eql 3 false true a (.int .i64 0)) c fun a c=>
 RR (sOp (.pick (.const b) (.const a) (.const (.bool false))) 4) c fun a b=>
 R (.returned a) b) (
 RR (sOp (.pick (.const b) (.const undef) (.const (.bool false))) 4) c fun a b=>
 R (.returned a) b)
theorem sS {p0:Value} {w:World} {R:Ending->World->Prop} (h:ri p0 w R):Calls Tryz.prog 172 #[p0] w R:=
  aL .leaf [p0] bl Tryz.func172 (by kernel_rfl) (by kernel_rfl) h


/- loop.example/prologserver/spec.l1Own : function 176 -/
def ut (p0:Value) (w:World) (R:Ending->World->Prop):Prop:=
 RR (sOp (.box 32 (.const p0)) 0) w fun a b=>
 RR (sOp (.fieldAddr 32 (.const a) 0) 0) b fun b c=>
 RR (sOp (.load 3 (.const b)) 3) c fun b c=>
 RR (au .eql 3 false true b (.int .i64 1)) c fun c d=>
 CondV c (
 RR (sOp (.fieldAddr 32 (.const a) 1) 0) d fun b c=>
 RR (sOp (.load 3 (.const b)) 3) c fun b c=>
 RR (au .geq 3 false true b (.int .i64 0)) c fun b c=>
 ((fun d:VW=>ah b true (
 RR (sOp (.fieldAddr 32 (.const a) 1) 0) c fun a c=>
 RR (sOp (.load 3 (.const a)) 3) c fun a c=>
 RR (au .leq 3 false true a (.int .i64 25)) c fun a c=>
 RR (sOp (.pick (.const b) (.const a) (.const (.bool false))) 4) c fun a b=>d a b) (
 RR (sOp (.pick (.const b) (.const undef) (.const (.bool false))) 4) c fun a b=>d a b)) fun b c=>
 ((fun d:VW=>ah b true (
 RR (sOp (.fieldAddr 32 (.const a) 2) 0) c fun a c=>
 RR (sOp (.load 9 (.const a)) 9) c fun a c=>
 RR (au .eql 9 false true a (.string ⟨#[]⟩)) c fun a c=>
 RR (sOp (.pick (.const b) (.const a) (.const (.bool false))) 4) c fun a b=>d a b) (
 RR (sOp (.pick (.const b) (.const undef) (.const (.bool false))) 4) c fun a b=>d a b)) fun b c=>
 ah b true (
 RR (sOp (.fieldAddr 32 (.const a) 3) 0) c fun a c=>
 RR (sOp (.load 30 (.const a)) 30) c fun a c=>
 RR (aA .len #[30] 3 [false] [a]) c fun a c=>
 RR (au .eql 3 false true a (.int .i64 0)) c fun a c=>
 RR (sOp (.pick (.const b) (.const a) (.const (.bool false))) 4) c fun a b=>
 R (.returned a) b) (
 RR (sOp (.pick (.const b) (.const undef) (.const (.bool false))) 4) c fun a b=>
 R (.returned a) b)))) (
 RR (au .eql 3 false true b (.int .i64 2)) d fun c d=>
 CondV c (
 RR (sOp (.fieldAddr 32 (.const a) 1) 0) d fun b c=>
 RR (sOp (.load 3 (.const b)) 3) c fun b c=>
 RR (au .geq 3 false true b (.int .i64 (-999))) c fun b c=>
 ((fun d:VW=>ah b true (
 RR (sOp (.fieldAddr 32 (.const a) 1) 0) c fun a c=>
 RR (sOp (.load 3 (.const a)) 3) c fun a c=>
 RR (au .leq 3 false true a (.int .i64 999)) c fun a c=>
 RR (sOp (.pick (.const b) (.const a) (.const (.bool false))) 4) c fun a b=>d a b) (
 RR (sOp (.pick (.const b) (.const undef) (.const (.bool false))) 4) c fun a b=>d a b)) fun b c=>
 ((fun d:VW=>ah b true (
 RR (sOp (.fieldAddr 32 (.const a) 2) 0) c fun a c=>
 RR (sOp (.load 9 (.const a)) 9) c fun a c=>
 RR (au .eql 9 false true a (.string ⟨#[]⟩)) c fun a c=>
 RR (sOp (.pick (.const b) (.const a) (.const (.bool false))) 4) c fun a b=>d a b) (
 RR (sOp (.pick (.const b) (.const undef) (.const (.bool false))) 4) c fun a b=>d a b)) fun b c=>
 ah b true (
 RR (sOp (.fieldAddr 32 (.const a) 3) 0) c fun a c=>
 RR (sOp (.load 30 (.const a)) 30) c fun a c=>
 RR (aA .len #[30] 3 [false] [a]) c fun a c=>
 RR (au .eql 3 false true a (.int .i64 0)) c fun a c=>
 RR (sOp (.pick (.const b) (.const a) (.const (.bool false))) 4) c fun a b=>
 R (.returned a) b) (
 RR (sOp (.pick (.const b) (.const undef) (.const (.bool false))) 4) c fun a b=>
 R (.returned a) b)))) (
 RR (au .eql 3 false true b (.int .i64 3)) d fun b c=>
 CondV b (
 RR (sOp (.fieldAddr 32 (.const a) 1) 0) c fun b c=>
 RR (sOp (.load 3 (.const b)) 3) c fun b c=>
 RR (au .eql 3 false true b (.int .i64 0)) c fun b c=>
 ((fun d:VW=>ah b true (
 RR (sOp (.fieldAddr 32 (.const a) 2) 0) c fun a c=>
 RR (sOp (.load 9 (.const a)) 9) c fun a c=>
 RR (ay (.func (.func 183) #[] #[]) [a]) c fun a c=>
 RR (sOp (.pick (.const b) (.const a) (.const (.bool false))) 4) c fun a b=>d a b) (
 RR (sOp (.pick (.const b) (.const undef) (.const (.bool false))) 4) c fun a b=>d a b)) fun b c=>
 ah b true (
 RR (sOp (.fieldAddr 32 (.const a) 3) 0) c fun a c=>
 RR (sOp (.load 30 (.const a)) 30) c fun a c=>
 RR (aA .len #[30] 3 [false] [a]) c fun a c=>
 RR (au .leq 3 false true a (.int .i64 4)) c fun a c=>
 RR (sOp (.pick (.const b) (.const a) (.const (.bool false))) 4) c fun a b=>
 R (.returned a) b) (
 RR (sOp (.pick (.const b) (.const undef) (.const (.bool false))) 4) c fun a b=>
 R (.returned a) b))) (
 R (.returned (.bool false)) c)))
theorem vf {p0:Value} {w:World} {R:Ending->World->Prop} (h:ut p0 w R):Calls Tryz.prog 176 #[p0] w R:=
  aL .leaf [p0] bl Tryz.func176 (by kernel_rfl) (by kernel_rfl) h


/- slices.Contains[[]string,string] : function 177 -/
def gn (p0 p1:Value) (w:World) (R:Ending->World->Prop):Prop:=
 RR (ay (.func (.func 184) #[] #[]) [p0,p1]) w fun a b=>
 RR (au .geq 3 false true a (.int .i64 0)) b fun a b=>
 R (.returned a) b
theorem jD {p0 p1:Value} {w:World} {R:Ending->World->Prop} (h:gn p0 p1 w R):Calls Tryz.prog 177 #[p0,p1] w R:=
  aL .leaf [p0,p1] bl Tryz.func177 (by kernel_rfl) (by kernel_rfl) h


/- loop.example/prologserver/impl.symbols : function 178 -/
def nV (w:World) (R:Ending->World->Prop):Prop:=
 RR (aR 82 15 [(0,(.string ⟨#[43]⟩)),(1,(.string ⟨#[45]⟩)),(2,(.string ⟨#[42]⟩)),(3,(.string ⟨#[47,47]⟩)),(4,(.string ⟨#[61]⟩)),(5,(.string ⟨#[92,61]⟩)),(6,(.string ⟨#[61,61]⟩)),(7,(.string ⟨#[60]⟩)),(8,(.string ⟨#[62]⟩)),(9,(.string ⟨#[61,60]⟩)),(10,(.string ⟨#[62,61]⟩)),(11,(.string ⟨#[61,58,61]⟩)),(12,(.string ⟨#[46]⟩)),(13,(.string ⟨#[91,93]⟩)),(14,(.string ⟨#[33]⟩))]) w fun a b=>
 R (.returned a) b
theorem sj {w:World} {R:Ending->World->Prop} (h:nV w R):Calls Tryz.prog 178 #[] w R:=
  aL .leaf [] bl Tryz.func178 (by kernel_rfl) (by kernel_rfl) h


/- loop.example/prologserver/spec.l2Prime : function 179 -/
def pD (p0 p1 p2:Value) (w:World) (R:Ending->World->Prop):Prop:=
 RR (sOp (.alloc 32) 0) w fun a b=>
 (∃ c:Value->World->Prop,(
 RR (au .lss 3 false true p2 (.int .i64 1)) b fun a b=>
 ah a false (
 RR (aA .len #[9] 3 [false] [p0]) b fun b d=>
 RR (au .geq 3 false false p1 b) d fun b d=>
 RR (sOp (.pick (.const a) (.const (.bool true)) (.const b)) 4) d fun a b=>
 c a b) (
 RR (sOp (.pick (.const a) (.const (.bool true)) (.const undef)) 4) b fun a b=>
 c a b))/\
 ∀ b _ _ _ _ _ _ _:Value,∀ d:World,c b d->
 CondV b (
 RR (ay (.func (.func 185) #[] #[]) [p1]) d fun b c=>
 RR (sOp (.extract (.const b) 0) 32) c fun c d=>
 RR (sOp (.extract (.const b) 1) 3) d fun b d=>
 RR (sOp (.store 32 (.const a) (.const c)) 0) d fun _ c=>
 (ba Tryz.prog 32 a c fun a=>R (.returned (.tuple #[a,b])) c)) (
 RR (sOp (.index 9 (.const p0) (.const p1)) 5) d fun b c=>
 RR (au .eql 5 false true b (.int .u8 40)) c fun b c=>
 CondV b (
 RR (au .add 3 false true p1 (.int .i64 1)) c fun b c=>
 RR (ay (.func (.func 162) #[] #[]) [p0,b,p2,(.int .i64 3)]) c fun b c=>
 RR (sOp (.extract (.const b) 0) 32) c fun c d=>
 RR (sOp (.extract (.const b) 1) 3) d fun b d=>
 RR (sOp (.alloc 32) 0) d fun d e=>
 RR (sOp (.store 32 (.const d) (.const c)) 0) e fun _ c=>
 RR (au .lss 3 false true b (.int .i64 0)) c fun c e=>
 CondV c (
 RR (cg 32 []) e fun c d=>
 RR (sOp (.store 32 (.const a) (.const c)) 0) d fun _ c=>
 (ba Tryz.prog 32 a c fun a=>R (.returned (.tuple #[a,b])) c)) (
 RR (ay (.func (.func 163) #[] #[]) [p0,b,(.int .u8 41)]) e fun c e=>
 RR (sOp (.unOp .not 4 (.const c)) 4) e fun c e=>
 CondV c (
 RR (ay (.func (.func 185) #[] #[]) [b]) e fun b c=>
 RR (sOp (.extract (.const b) 0) 32) c fun c d=>
 RR (sOp (.extract (.const b) 1) 3) d fun b d=>
 RR (sOp (.store 32 (.const a) (.const c)) 0) d fun _ c=>
 (ba Tryz.prog 32 a c fun a=>R (.returned (.tuple #[a,b])) c)) (
 RR (sOp (.load 32 (.const d)) 32) e fun c d=>
 RR (au .add 3 false true b (.int .i64 1)) d fun b d=>
 RR (sOp (.store 32 (.const a) (.const c)) 0) d fun _ c=>
 (ba Tryz.prog 32 a c fun a=>R (.returned (.tuple #[a,b])) c)))) (
 (∃ b:Value->World->Prop,(
 RR (sOp (.index 9 (.const p0) (.const p1)) 5) c fun a c=>
 RR (au .eql 5 false true a (.int .u8 91)) c fun a c=>
 ah a true (
 RR (au .add 3 false true p1 (.int .i64 1)) c fun c d=>
 RR (ay (.func (.func 163) #[] #[]) [p0,c,(.int .u8 93)]) d fun c d=>
 RR (sOp (.unOp .not 4 (.const c)) 4) d fun c d=>
 RR (sOp (.pick (.const a) (.const c) (.const (.bool false))) 4) d fun a c=>
 b a c) (
 RR (sOp (.pick (.const a) (.const undef) (.const (.bool false))) 4) c fun a c=>
 b a c))/\
 ∀ c _ _ _ _ _ _ _ _ _ _:Value,∀ d:World,b c d->
 CondV c (
 RR (au .add 3 false true p1 (.int .i64 1)) d fun b c=>
 RR (au .sub 3 false true p2 (.int .i64 1)) c fun c d=>
 RR (ay (.func (.func 186) #[] #[]) [p0,b,c]) d fun b c=>
 RR (sOp (.extract (.const b) 0) 32) c fun c d=>
 RR (sOp (.extract (.const b) 1) 3) d fun b d=>
 RR (sOp (.store 32 (.const a) (.const c)) 0) d fun _ c=>
 (ba Tryz.prog 32 a c fun a=>R (.returned (.tuple #[a,b])) c)) (
 (∃ b:Value->World->Prop,(
 RR (sOp (.index 9 (.const p0) (.const p1)) 5) d fun a c=>
 RR (au .geq 5 false true a (.int .u8 65)) c fun a c=>
 ah a true (
 RR (sOp (.index 9 (.const p0) (.const p1)) 5) c fun c d=>
 RR (au .leq 5 false true c (.int .u8 90)) d fun c d=>
 RR (sOp (.pick (.const a) (.const c) (.const (.bool false))) 4) d fun a c=>
 b a c) (
 RR (sOp (.pick (.const a) (.const undef) (.const (.bool false))) 4) c fun a c=>
 b a c))/\
 ∀ c _ _ _ _ _ _ _ _ _:Value,∀ d:World,b c d->
 CondV c (
 RR (sOp (.index 9 (.const p0) (.const p1)) 5) d fun b c=>
 RR (au .sub 5 false true b (.int .u8 65)) c fun b c=>
 RR (sOp (.convert 5 3 (.const b)) 3) c fun b c=>
 RR (ay (.func (.func 148) #[] #[]) [b]) c fun b c=>
 RR (au .add 3 false true p1 (.int .i64 1)) c fun c d=>
 RR (sOp (.store 32 (.const a) (.const b)) 0) d fun _ b=>
 (ba Tryz.prog 32 a b fun a=>R (.returned (.tuple #[a,c])) b)) (
 (∃ b:Value->World->Prop,(
 RR (ay (.func (.func 187) #[] #[]) [p0,p1]) d fun a c=>
 ah a false (
 RR (sOp (.index 9 (.const p0) (.const p1)) 5) c fun c d=>
 RR (au .eql 5 false true c (.int .u8 45)) d fun c d=>
 ah c true (
 RR (au .add 3 false true p1 (.int .i64 1)) d fun d e=>
 RR (ay (.func (.func 187) #[] #[]) [p0,d]) e fun d e=>
 ah a false (
 RR (sOp (.pick (.const c) (.const d) (.const (.bool false))) 4) e fun c d=>
 RR (sOp (.pick (.const a) (.const (.bool true)) (.const c)) 4) d fun a c=>
 b a c) (
 RR (sOp (.pick (.const a) (.const (.bool true)) (.const undef)) 4) e fun a c=>
 b a c)) (
 ah a false (
 RR (sOp (.pick (.const c) (.const undef) (.const (.bool false))) 4) d fun c d=>
 RR (sOp (.pick (.const a) (.const (.bool true)) (.const c)) 4) d fun a c=>
 b a c) (
 RR (sOp (.pick (.const a) (.const (.bool true)) (.const undef)) 4) d fun a c=>
 b a c))) (
 ah undef true (
 RR (au .add 3 false true p1 (.int .i64 1)) c fun c d=>
 RR (ay (.func (.func 187) #[] #[]) [p0,c]) d fun c d=>
 ah a false (
 RR (sOp (.pick (.const undef) (.const c) (.const (.bool false))) 4) d fun c d=>
 RR (sOp (.pick (.const a) (.const (.bool true)) (.const c)) 4) d fun a c=>
 b a c) (
 RR (sOp (.pick (.const a) (.const (.bool true)) (.const undef)) 4) d fun a c=>
 b a c)) (
 ah a false (
 RR (sOp (.pick (.const undef) (.const undef) (.const (.bool false))) 4) c fun c d=>
 RR (sOp (.pick (.const a) (.const (.bool true)) (.const c)) 4) d fun a c=>
 b a c) (
 RR (sOp (.pick (.const a) (.const (.bool true)) (.const undef)) 4) c fun a c=>
 b a c))))/\
 ∀ c _ _ _ _ _ _ _ _ _ _ _ _ _ _:Value,∀ d:World,b c d->
 CondV c (
 RR (ay (.func (.func 188) #[] #[]) [p0,p1]) d fun b c=>
 RR (sOp (.extract (.const b) 0) 32) c fun c d=>
 RR (sOp (.extract (.const b) 1) 3) d fun b d=>
 RR (sOp (.alloc 32) 0) d fun d e=>
 RR (sOp (.store 32 (.const d) (.const c)) 0) e fun _ c=>
 RR (au .lss 3 false true b (.int .i64 0)) c fun c e=>
 CondV c (
 RR (ay (.func (.func 185) #[] #[]) [p1]) e fun b c=>
 RR (sOp (.extract (.const b) 0) 32) c fun c d=>
 RR (sOp (.extract (.const b) 1) 3) d fun b d=>
 RR (sOp (.store 32 (.const a) (.const c)) 0) d fun _ c=>
 (ba Tryz.prog 32 a c fun a=>R (.returned (.tuple #[a,b])) c)) (
 RR (sOp (.load 32 (.const d)) 32) e fun c d=>
 RR (sOp (.store 32 (.const a) (.const c)) 0) d fun _ c=>
 (ba Tryz.prog 32 a c fun a=>R (.returned (.tuple #[a,b])) c))) (
 RR (ay (.func (.func 189) #[] #[]) [p0,p1]) d fun b c=>
 RR (sOp (.extract (.const b) 0) 9) c fun c d=>
 RR (sOp (.extract (.const b) 1) 3) d fun b d=>
 RR (au .lss 3 false true b (.int .i64 0)) d fun d e=>
 CondV d (
 RR (ay (.func (.func 185) #[] #[]) [p1]) e fun b c=>
 RR (sOp (.extract (.const b) 0) 32) c fun c d=>
 RR (sOp (.extract (.const b) 1) 3) d fun b d=>
 RR (sOp (.store 32 (.const a) (.const c)) 0) d fun _ c=>
 (ba Tryz.prog 32 a c fun a=>R (.returned (.tuple #[a,b])) c)) (
 RR (ay (.func (.func 163) #[] #[]) [p0,b,(.int .u8 40)]) e fun d e=>
 RR (sOp (.unOp .not 4 (.const d)) 4) e fun d e=>
 CondV d (
 RR (ay (.func (.func 106) #[] #[]) [c,(Value.slice none 0 0)]) e fun c d=>
 RR (sOp (.store 32 (.const a) (.const c)) 0) d fun _ c=>
 (ba Tryz.prog 32 a c fun a=>R (.returned (.tuple #[a,b])) c)) (
 RR (au .add 3 false true b (.int .i64 1)) e fun b d=>
 RR (au .sub 3 false true p2 (.int .i64 1)) d fun d e=>
 RR (ay (.func (.func 190) #[] #[]) [p0,b,d,(.int .u8 41),(.int .u8 41)]) e fun b d=>
 RR (sOp (.extract (.const b) 0) 30) d fun d e=>
 RR (sOp (.extract (.const b) 1) 3) e fun b e=>
 RR (au .lss 3 false true b (.int .i64 0)) e fun e f=>
 CondV e (
 RR (cg 32 []) f fun c d=>
 RR (sOp (.store 32 (.const a) (.const c)) 0) d fun _ c=>
 (ba Tryz.prog 32 a c fun a=>R (.returned (.tuple #[a,b])) c)) (
 RR (cg 32 [(0,(.int .i64 3)),(2,c),(3,d)]) f fun c d=>
 RR (au .add 3 false true b (.int .i64 1)) d fun b d=>
 RR (sOp (.store 32 (.const a) (.const c)) 0) d fun _ c=>
 (ba Tryz.prog 32 a c fun a=>R (.returned (.tuple #[a,b])) c)))))))))))))
theorem sF {p0 p1 p2:Value} {w:World} {R:Ending->World->Prop} (h:pD p0 p1 p2 w R):Calls Tryz.prog 179 #[p0,p1,p2] w R:=
  aL (.seq none .leaf (.seq none (.seq (some [23]) .leaf .leaf) (.seq none .leaf (.seq none (.seq (some [65]) .leaf .leaf) (.seq none (.seq (some [83]) .leaf .leaf) (.seq none (.seq (some [106]) .leaf .leaf) .leaf)))))) [p0,p1,p2] bl Tryz.func179 (by kernel_rfl) (by kernel_rfl) h


/- loop.example/prologserver/spec.l2Op : function 180 -/
def v8 (p0 p1:Value) (w:World) (R:Ending->World->Prop):Prop:=
 (∃ a:Value->World->Prop,(
 RR (ay (.func (.func 163) #[] #[]) [p0,p1,(.int .u8 32)]) w fun b c=>
 CondV b (
 RR (au .add 3 false true p1 (.int .i64 1)) c fun b c=>
 a b c) (
 a p1 c))/\
 ∀ b _ _ _ _ _:Value,∀ c:World,a b c->
 RR (aA .len #[9] 3 [false] [p0]) c fun a c=>
 RR (au .geq 3 false false b a) c fun a c=>
 CondV a (
 R (.returned (.tuple #[(.string ⟨#[]⟩),p1])) c) (
 RR (ay (.func (.func 189) #[] #[]) [p0,b]) c fun a c=>
 RR (sOp (.extract (.const a) 0) 9) c fun c d=>
 RR (sOp (.extract (.const a) 1) 3) d fun a d=>
 (∃ e:Value->World->Prop,(
 RR (au .lss 3 false true a (.int .i64 0)) d fun a b=>
 ah a false (
 RR (ay (.func (.func 156) #[] #[]) [c]) b fun b c=>
 RR (au .eql 3 false true b (.int .i64 0)) c fun b c=>
 RR (sOp (.pick (.const a) (.const (.bool true)) (.const b)) 4) c fun a b=>
 e a b) (
 RR (sOp (.pick (.const a) (.const (.bool true)) (.const undef)) 4) b fun a b=>
 e a b))/\
 ∀ d _ _ _ _ _ _:Value,∀ f:World,e d f->
 CondV d (
 R (.returned (.tuple #[(.string ⟨#[]⟩),p1])) f) (
 (∃ d:Value->World->Prop,(
 RR (au .eql 9 false true c (.string ⟨#[105,115]⟩)) f fun a b=>
 ah a false (
 RR (au .eql 9 false true c (.string ⟨#[109,111,100]⟩)) b fun b c=>
 RR (sOp (.pick (.const a) (.const (.bool true)) (.const b)) 4) c fun a b=>
 d a b) (
 RR (sOp (.pick (.const a) (.const (.bool true)) (.const undef)) 4) b fun a b=>
 d a b))/\
 ∀ e _ _ _ _ _ _:Value,∀ f:World,d e f->
 (∃ d:Value->World->Prop,(
 RR (au .gtr 3 false false b p1) f fun b c=>
 RR (au .neq 4 false false e b) c fun b c=>
 ah b false (
 ah e true (
 RR (ay (.func (.func 163) #[] #[]) [p0,a,(.int .u8 32)]) c fun a c=>
 RR (sOp (.unOp .not 4 (.const a)) 4) c fun a c=>
 ah b false (
 RR (sOp (.pick (.const e) (.const a) (.const (.bool false))) 4) c fun a c=>
 RR (sOp (.pick (.const b) (.const (.bool true)) (.const a)) 4) c fun a b=>
 d a b) (
 RR (sOp (.pick (.const b) (.const (.bool true)) (.const undef)) 4) c fun a b=>
 d a b)) (
 ah b false (
 RR (sOp (.pick (.const e) (.const undef) (.const (.bool false))) 4) c fun a c=>
 RR (sOp (.pick (.const b) (.const (.bool true)) (.const a)) 4) c fun a b=>
 d a b) (
 RR (sOp (.pick (.const b) (.const (.bool true)) (.const undef)) 4) c fun a b=>
 d a b))) (
 ah undef true (
 RR (ay (.func (.func 163) #[] #[]) [p0,a,(.int .u8 32)]) c fun a c=>
 RR (sOp (.unOp .not 4 (.const a)) 4) c fun a c=>
 ah b false (
 RR (sOp (.pick (.const undef) (.const a) (.const (.bool false))) 4) c fun a c=>
 RR (sOp (.pick (.const b) (.const (.bool true)) (.const a)) 4) c fun a b=>
 d a b) (
 RR (sOp (.pick (.const b) (.const (.bool true)) (.const undef)) 4) c fun a b=>
 d a b)) (
 ah b false (
 RR (sOp (.pick (.const undef) (.const undef) (.const (.bool false))) 4) c fun a c=>
 RR (sOp (.pick (.const b) (.const (.bool true)) (.const a)) 4) c fun a b=>
 d a b) (
 RR (sOp (.pick (.const b) (.const (.bool true)) (.const undef)) 4) c fun a b=>
 d a b))))/\
 ∀ b _ _ _ _ _ _ _ _ _ _ _ _ _:Value,∀ f:World,d b f->
 CondV b (
 R (.returned (.tuple #[(.string ⟨#[]⟩),p1])) f) (
 (∃ b:Value->World->Prop,(
 CondV e (
 RR (au .add 3 false true a (.int .i64 1)) f fun a c=>
 b a c) (
 b a f))/\
 ∀ a _ _ _:Value,∀ d:World,b a d->
 R (.returned (.tuple #[c,a])) d))))))))
theorem xW {p0 p1:Value} {w:World} {R:Ending->World->Prop} (h:v8 p0 p1 w R):Calls Tryz.prog 180 #[p0,p1] w R:=
  aL (.seq none .leaf (.seq none .leaf (.seq (some [6]) .leaf (.seq none .leaf (.seq none .leaf (.seq none (.seq (some [33]) .leaf .leaf) (.seq (some [9]) .leaf (.seq none (.seq (some [54]) .leaf .leaf) (.seq (some [8]) .leaf .leaf))))))))) [p0,p1] bl Tryz.func180 (by kernel_rfl) (by kernel_rfl) h


/- loop.example/prologserver/spec.l4Text : function 181 -/
def qV (p0:Value) (w:World) (R:Ending->World->Prop):Prop:=
 RR (sOp (.box 34 (.const p0)) 0) w fun a b=>
 RR (sOp (.fieldAddr 34 (.const a) 0) 0) b fun b c=>
 RR (sOp (.load 32 (.const b)) 32) c fun b c=>
 RR (ay (.func (.func 191) #[] #[]) [b]) c fun b c=>
 (∃ (d:Value->Value->World->Prop) (e:Value->Value->World->Nat),d (.int .i64 0) b c/\
 ∀ b _ _ _ _ _ _ _ _ _ _ _ _ c _ _ _ _ _ _ _ _ _:Value,∀ f:World,d b c f->
 RR (sOp (.fieldAddr 34 (.const a) 1) 0) f fun g h=>
 RR (sOp (.load 30 (.const g)) 30) h fun g h=>
 RR (aA .len #[30] 3 [false] [g]) h fun g h=>
 RR (au .lss 3 false false b g) h fun g h=>
 CondV g (
 (∃ g:Value->World->Prop,(
 RR (au .eql 3 false true b (.int .i64 0)) h fun a b=>
 CondV a (
 RR (au .add 9 false true c (.string ⟨#[58,45]⟩)) b fun a b=>
 g a b) (
 RR (au .add 9 false true c (.string ⟨#[44]⟩)) b fun a b=>
 g a b))/\
 ∀ _ _ h _ _ _ _:Value,∀ i:World,g h i->
 RR (sOp (.fieldAddr 34 (.const a) 1) 0) i fun a g=>
 RR (sOp (.load 30 (.const a)) 30) g fun a g=>
 RR (sOp (.indexAddr 30 (.const a) (.const b)) 0) g fun a g=>
 RR (sOp (.load 32 (.const a)) 32) g fun a g=>
 RR (ay (.func (.func 191) #[] #[]) [a]) g fun a g=>
 RR (au .add 9 false false h a) g fun a g=>
 RR (au .add 3 false true b (.int .i64 1)) g fun g h=>
 d g a h/\e g a h<e b c f)) (
 RR (au .add 9 false true c (.string ⟨#[46]⟩)) h fun a b=>
 R (.returned a) b))
theorem sR {p0:Value} {w:World} {R:Ending->World->Prop} (h:qV p0 w R):Calls Tryz.prog 181 #[p0] w R:=
  aL (.seq none .leaf (.seq none .leaf (.seq none (.seq none .leaf (.one (.loop [4,3] (.seq none .leaf (.seq none (.one (.seq (some [3]) .leaf .leaf)) .leaf))))) .leaf))) [p0] bl Tryz.func181 (by kernel_rfl) (by kernel_rfl) h


/- loop.example/prologserver/spec.NameValid : function 183 -/
def kQ (p0:Value) (w:World) (R:Ending->World->Prop):Prop:=
 RR (ay (.func (.func 154) #[] #[]) [p0]) w fun a b=>
 ah a false (
 RR (ay (.func (.func 194) #[] #[]) []) b fun b c=>
 RR (ay (.func (.func 193) #[] #[]) [b,p0]) c fun b c=>
 RR (sOp (.pick (.const a) (.const (.bool true)) (.const b)) 4) c fun a b=>
 R (.returned a) b) (
 RR (sOp (.pick (.const a) (.const (.bool true)) (.const undef)) 4) b fun a b=>
 R (.returned a) b)
theorem oY {p0:Value} {w:World} {R:Ending->World->Prop} (h:kQ p0 w R):Calls Tryz.prog 183 #[p0] w R:=
  aL .leaf [p0] bl Tryz.func183 (by kernel_rfl) (by kernel_rfl) h


/- slices.Index[[]string,string] : function 184 -/
def ja (p0 p1:Value) (w:World) (R:Ending->World->Prop):Prop:=
 RR (aA .len #[82] 3 [false] [p0]) w fun a b=>
 (∃ (c:Value->World->Prop) (d:Value->World->Nat),c (.int .i64 0) b/\
 ∀ b _ _ _ _ _ _ _ _ _ _ _ _:Value,∀ e:World,c b e->
 RR (au .lss 3 false false b a) e fun a f=>
 CondV a (
 RR (sOp (.indexAddr 82 (.const p0) (.const b)) 0) f fun a f=>
 RR (sOp (.load 9 (.const a)) 9) f fun a f=>
 RR (au .eql 9 false false p1 a) f fun a f=>
 CondV a (
 R (.returned b) f) (
 RR (au .add 3 false true b (.int .i64 1)) f fun a f=>
 c a f/\d a f<d b e)) (
 R (.returned (.int .i64 (-1))) f))
theorem kO {p0 p1:Value} {w:World} {R:Ending->World->Prop} (h:ja p0 p1 w R):Calls Tryz.prog 184 #[p0,p1] w R:=
  aL (.seq none .leaf (.seq none (.seq none .leaf (.one (.loop [8] .leaf))) .leaf)) [p0,p1] bl Tryz.func184 (by kernel_rfl) (by kernel_rfl) h


/- loop.example/prologserver/spec.l2Items : function 186 -/
def pa (p0 p1 p2:Value) (w:World) (R:Ending->World->Prop):Prop:=
 RR (sOp (.alloc 32) 0) w fun a b=>
 RR (ay (.func (.func 190) #[] #[]) [p0,p1,p2,(.int .u8 93),(.int .u8 124)]) b fun b c=>
 RR (sOp (.extract (.const b) 0) 30) c fun c d=>
 RR (sOp (.extract (.const b) 1) 3) d fun b d=>
 RR (au .lss 3 false true b (.int .i64 0)) d fun d e=>
 CondV d (
 RR (cg 32 []) e fun c d=>
 RR (sOp (.store 32 (.const a) (.const c)) 0) d fun _ c=>
 (ba Tryz.prog 32 a c fun a=>R (.returned (.tuple #[a,b])) c)) (
 RR (ay (.func (.func 163) #[] #[]) [p0,b,(.int .u8 93)]) e fun d e=>
 CondV d (
 RR (ay (.func (.func 106) #[] #[]) [(.string ⟨#[91,93]⟩),(Value.slice none 0 0)]) e fun d e=>
 RR (ay (.func (.func 195) #[] #[]) [c,d]) e fun c d=>
 RR (au .add 3 false true b (.int .i64 1)) d fun b d=>
 RR (sOp (.store 32 (.const a) (.const c)) 0) d fun _ c=>
 (ba Tryz.prog 32 a c fun a=>R (.returned (.tuple #[a,b])) c)) (
 RR (au .add 3 false true b (.int .i64 1)) e fun b d=>
 RR (ay (.func (.func 162) #[] #[]) [p0,b,p2,(.int .i64 3)]) d fun b d=>
 RR (sOp (.extract (.const b) 0) 32) d fun d e=>
 RR (sOp (.extract (.const b) 1) 3) e fun b e=>
 RR (sOp (.alloc 32) 0) e fun e f=>
 RR (sOp (.store 32 (.const e) (.const d)) 0) f fun _ d=>
 RR (au .lss 3 false true b (.int .i64 0)) d fun d f=>
 CondV d (
 RR (cg 32 []) f fun c d=>
 RR (sOp (.store 32 (.const a) (.const c)) 0) d fun _ c=>
 (ba Tryz.prog 32 a c fun a=>R (.returned (.tuple #[a,b])) c)) (
 RR (ay (.func (.func 163) #[] #[]) [p0,b,(.int .u8 93)]) f fun d f=>
 RR (sOp (.unOp .not 4 (.const d)) 4) f fun d f=>
 CondV d (
 RR (ay (.func (.func 185) #[] #[]) [b]) f fun b c=>
 RR (sOp (.extract (.const b) 0) 32) c fun c d=>
 RR (sOp (.extract (.const b) 1) 3) d fun b d=>
 RR (sOp (.store 32 (.const a) (.const c)) 0) d fun _ c=>
 (ba Tryz.prog 32 a c fun a=>R (.returned (.tuple #[a,b])) c)) (
 RR (sOp (.load 32 (.const e)) 32) f fun d e=>
 RR (ay (.func (.func 195) #[] #[]) [c,d]) e fun c d=>
 RR (au .add 3 false true b (.int .i64 1)) d fun b d=>
 RR (sOp (.store 32 (.const a) (.const c)) 0) d fun _ c=>
 (ba Tryz.prog 32 a c fun a=>R (.returned (.tuple #[a,b])) c)))))
theorem sz {p0 p1 p2:Value} {w:World} {R:Ending->World->Prop} (h:pa p0 p1 p2 w R):Calls Tryz.prog 186 #[p0,p1,p2] w R:=
  aL .leaf [p0,p1,p2] bl Tryz.func186 (by kernel_rfl) (by kernel_rfl) h


/- loop.example/prologserver/spec.l1Digit : function 187 -/
def oz (p0 p1:Value) (w:World) (R:Ending->World->Prop):Prop:=
 RR (au .geq 3 false true p1 (.int .i64 0)) w fun a b=>
 ((fun c:VW=>ah a true (
 RR (aA .len #[9] 3 [false] [p0]) b fun b d=>
 RR (au .lss 3 false false p1 b) d fun b d=>
 RR (sOp (.pick (.const a) (.const b) (.const (.bool false))) 4) d fun a b=>c a b) (
 RR (sOp (.pick (.const a) (.const undef) (.const (.bool false))) 4) b fun a b=>c a b)) fun a b=>
 ((fun c:VW=>ah a true (
 RR (sOp (.index 9 (.const p0) (.const p1)) 5) b fun b d=>
 RR (au .geq 5 false true b (.int .u8 48)) d fun b d=>
 RR (sOp (.pick (.const a) (.const b) (.const (.bool false))) 4) d fun a b=>c a b) (
 RR (sOp (.pick (.const a) (.const undef) (.const (.bool false))) 4) b fun a b=>c a b)) fun a b=>
 ah a true (
 RR (sOp (.index 9 (.const p0) (.const p1)) 5) b fun b c=>
 RR (au .leq 5 false true b (.int .u8 57)) c fun b c=>
 RR (sOp (.pick (.const a) (.const b) (.const (.bool false))) 4) c fun a b=>
 R (.returned a) b) (
 RR (sOp (.pick (.const a) (.const undef) (.const (.bool false))) 4) b fun a b=>
 R (.returned a) b)))
theorem sD {p0 p1:Value} {w:World} {R:Ending->World->Prop} (h:oz p0 p1 w R):Calls Tryz.prog 187 #[p0,p1] w R:=
  aL .leaf [p0,p1] bl Tryz.func187 (by kernel_rfl) (by kernel_rfl) h


/- loop.example/prologserver/spec.l1Number : function 188 -/
def mr (p0 p1:Value) (w:World) (R:Ending->World->Prop):Prop:=
 RR (sOp (.alloc 32) 0) w fun a b=>
 (∃ c:Value->World->Prop,(
 RR (ay (.func (.func 163) #[] #[]) [p0,p1,(.int .u8 45)]) b fun a b=>
 CondV a (
 RR (au .add 3 false true p1 (.int .i64 1)) b fun a b=>
 c a b) (
 c p1 b))/\
 ∀ b _ _ _ _ _:Value,∀ d:World,c b d->
 (∃ (c:Value->World->Prop) (e:Value->World->Nat),c b d/\
 ∀ d _ _ _ _ _ _ _ _ _ _ _:Value,∀ f:World,c d f->
 (∃ g:Value->World->Prop,(
 RR (ay (.func (.func 187) #[] #[]) [p0,d]) f fun a c=>
 ah a true (
 RR (au .add 3 false true b (.int .i64 4)) c fun b c=>
 RR (au .lss 3 false false d b) c fun b c=>
 RR (sOp (.pick (.const a) (.const b) (.const (.bool false))) 4) c fun a b=>
 g a b) (
 RR (sOp (.pick (.const a) (.const undef) (.const (.bool false))) 4) c fun a b=>
 g a b))/\
 ∀ h _ _ _ _ _ _ _ _:Value,∀ i:World,g h i->
 CondV h (
 RR (au .add 3 false true d (.int .i64 1)) i fun a b=>
 c a b/\e a b<e d f) (
 RR (sOp (.slice 9 (.const p0) (some (.const b)) (some (.const d)) none) 9) i fun c e=>
 RR (ay (.func (.func 196) #[] #[]) [c]) e fun c e=>
 RR (sOp (.extract (.const c) 0) 3) e fun e f=>
 RR (sOp (.extract (.const c) 1) 4) f fun c f=>
 (∃ g:Value->World->Prop,(
 RR (sOp (.unOp .not 4 (.const c)) 4) f fun a c=>
 ah a false (
 RR (au .gtr 3 false false b p1) c fun b c=>
 ah b true (
 RR (au .eql 3 false true e (.int .i64 0)) c fun c d=>
 ((fun e:VW=>ah a false (
 RR (sOp (.pick (.const b) (.const c) (.const (.bool false))) 4) d fun b c=>
 RR (sOp (.pick (.const a) (.const (.bool true)) (.const b)) 4) c fun a b=>e a b) (
 RR (sOp (.pick (.const a) (.const (.bool true)) (.const undef)) 4) d fun a b=>e a b)) fun a b=>
 ah a false (
 RR (au .gtr 3 false true e (.int .i64 999)) b fun b c=>
 RR (sOp (.pick (.const a) (.const (.bool true)) (.const b)) 4) c fun a b=>
 g a b) (
 RR (sOp (.pick (.const a) (.const (.bool true)) (.const undef)) 4) b fun a b=>
 g a b))) (
 ((fun d:VW=>ah a false (
 RR (sOp (.pick (.const b) (.const undef) (.const (.bool false))) 4) c fun b c=>
 RR (sOp (.pick (.const a) (.const (.bool true)) (.const b)) 4) c fun a b=>d a b) (
 RR (sOp (.pick (.const a) (.const (.bool true)) (.const undef)) 4) c fun a b=>d a b)) fun a b=>
 ah a false (
 RR (au .gtr 3 false true e (.int .i64 999)) b fun b c=>
 RR (sOp (.pick (.const a) (.const (.bool true)) (.const b)) 4) c fun a b=>
 g a b) (
 RR (sOp (.pick (.const a) (.const (.bool true)) (.const undef)) 4) b fun a b=>
 g a b)))) (
 ah undef true (
 RR (au .eql 3 false true e (.int .i64 0)) c fun b c=>
 ((fun d:VW=>ah a false (
 RR (sOp (.pick (.const undef) (.const b) (.const (.bool false))) 4) c fun b c=>
 RR (sOp (.pick (.const a) (.const (.bool true)) (.const b)) 4) c fun a b=>d a b) (
 RR (sOp (.pick (.const a) (.const (.bool true)) (.const undef)) 4) c fun a b=>d a b)) fun a b=>
 ah a false (
 RR (au .gtr 3 false true e (.int .i64 999)) b fun b c=>
 RR (sOp (.pick (.const a) (.const (.bool true)) (.const b)) 4) c fun a b=>
 g a b) (
 RR (sOp (.pick (.const a) (.const (.bool true)) (.const undef)) 4) b fun a b=>
 g a b))) (
 ((fun b:VW=>ah a false (
 RR (sOp (.pick (.const undef) (.const undef) (.const (.bool false))) 4) c fun c d=>
 RR (sOp (.pick (.const a) (.const (.bool true)) (.const c)) 4) d fun a c=>b a c) (
 RR (sOp (.pick (.const a) (.const (.bool true)) (.const undef)) 4) c fun a c=>b a c)) fun a b=>
 ah a false (
 RR (au .gtr 3 false true e (.int .i64 999)) b fun b c=>
 RR (sOp (.pick (.const a) (.const (.bool true)) (.const b)) 4) c fun a b=>
 g a b) (
 RR (sOp (.pick (.const a) (.const (.bool true)) (.const undef)) 4) b fun a b=>
 g a b)))))/\
 ∀ c _ _ _ _ _ _ _ _ _ _ _ _ _ _:Value,∀ f:World,g c f->
 CondV c (
 RR (cg 32 []) f fun b c=>
 RR (sOp (.store 32 (.const a) (.const b)) 0) c fun _ b=>
 (ba Tryz.prog 32 a b fun a=>R (.returned (.tuple #[a,(.int .i64 (-1))])) b)) (
 (∃ c:Value->World->Prop,(
 RR (au .gtr 3 false false b p1) f fun a b=>
 CondV a (
 RR (sOp (.unOp .neg 3 (.const e)) 3) b fun a b=>
 c a b) (
 c e b))/\
 ∀ b _ _ _ _ _:Value,∀ e:World,c b e->
 RR (ay (.func (.func 149) #[] #[]) [b]) e fun b c=>
 RR (sOp (.store 32 (.const a) (.const b)) 0) c fun _ b=>
 (ba Tryz.prog 32 a b fun a=>R (.returned (.tuple #[a,d])) b))))))))
theorem qb {p0 p1:Value} {w:World} {R:Ending->World->Prop} (h:mr p0 p1 w R):Calls Tryz.prog 188 #[p0,p1] w R:=
  aL (.seq none .leaf (.seq none .leaf (.seq (some [6]) .leaf (.seq none .leaf (.seq none (.one (.loop [6] (.seq none (.seq (some [25]) .leaf .leaf) .leaf))) (.seq none .leaf (.seq none (.seq (some [50]) .leaf .leaf) (.seq (some [8]) .leaf .leaf)))))))) [p0,p1] bl Tryz.func188 (by kernel_rfl) (by kernel_rfl) h

end Go.Proofs.YtmnnpgdeecnfpaaGreat
