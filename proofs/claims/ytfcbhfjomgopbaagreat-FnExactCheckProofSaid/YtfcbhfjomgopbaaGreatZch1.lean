/- Made by program: the functions in a shallow form; each form gives Calls. -/
import Derived.Test.YtfcbhfjomgopbaaGreatZcS
import Derived.Test.YtfcbhfjomgopbaaGreatProg
import Derived.Test.YtfcbhfjomgopbaaGreatZch0
import Derived.KernelRfl
set_option maxRecDepth 100000
namespace Go.Proofs.YtfcbhfjomgopbaaGreat
open Go
/- loop.example/prologserver/spec.l5Solve : function 138 -/
def pl (p0 p1:Value) (w:World) (R:Ending->World->Prop):Prop:=
 RR (sOp (.box 36 (.const p0)) 0) w fun a b=>
 RR (sOp (.fieldAddr 36 (.const a) 2) 0) b fun b c=>
 RR (sOp (.load 9 (.const b)) 9) c fun b c=>
 RR (aG .eql 9 false true b (.string ⟨#[116,114,117,101]⟩)) c fun c d=>
 CondV c (
 R (.returned (.int .i64 0)) d) (
 RR (aG .eql 9 false true b (.string ⟨#[102,97,105,108]⟩)) d fun c d=>
 CondV c (
 R (.returned (.int .i64 1)) d) (
 RR (aG .eql 9 false true b (.string ⟨#[61]⟩)) d fun c d=>
 CondV c (
 (∃ b:(Nat->Bool)->Value->Value->Value->Value->Value->Value->Value->Value->Value->Value->Value->Value->World->Prop,b (fun _=>false) (.int .i64 0) undef undef undef undef undef undef undef undef undef undef undef { d with drawn:=d.drawn+1 }/\(
 (∀ c:Nat->Bool,c 0=false->∀ d e f g h i j k l m n o p,b c d e f g h i j k l m n o p->
 RR (sOp (.fieldAddr 36 (.const a) 3) 0) p fun a o=>
 b (aD c 0) d e f g h i j k l m n a o)/\
 (∀ a:Nat->Bool,a 1=false->a 0=true->∀ c d e f g h i j k l m n o,b a c d e f g h i j k l m n o->
 RR (sOp (.load 34 (.const n)) 34) o fun m o=>
 b (aD a 1) c d e f g h i j k l m n o)/\
 (∀ a:Nat->Bool,a 2=false->a 1=true->∀ c d e f g h i j k l m n o,b a c d e f g h i j k l m n o->
 RR (sOp (.indexAddr 34 (.const m) (.const (.int .i64 0))) 0) o fun l o=>
 b (aD a 2) c d e f g h i j k l m n o)/\
 (∀ a:Nat->Bool,a 3=false->a 2=true->∀ c d e f g h i j k l m n o,b a c d e f g h i j k l m n o->
 RR (sOp (.load 36 (.const l)) 36) o fun k o=>
 b (aD a 3) c d e f g h i j k l m n o)/\
 (∀ c:Nat->Bool,c 4=false->∀ d e f g h i j k l m n o p,b c d e f g h i j k l m n o p->
 RR (sOp (.fieldAddr 36 (.const a) 3) 0) p fun a k=>
 b (aD c 4) d e f g h i j a l m n o k)/\
 (∀ a:Nat->Bool,a 5=false->a 4=true->∀ c d e f g h i j k l m n o,b a c d e f g h i j k l m n o->
 RR (sOp (.load 34 (.const j)) 34) o fun i o=>
 b (aD a 5) c d e f g h i j k l m n o)/\
 (∀ a:Nat->Bool,a 6=false->a 5=true->∀ c d e f g h i j k l m n o,b a c d e f g h i j k l m n o->
 RR (sOp (.indexAddr 34 (.const i) (.const (.int .i64 1))) 0) o fun h o=>
 b (aD a 6) c d e f g h i j k l m n o)/\
 (∀ a:Nat->Bool,a 7=false->a 6=true->∀ c d e f g h i j k l m n o,b a c d e f g h i j k l m n o->
 RR (sOp (.load 36 (.const h)) 36) o fun g o=>
 b (aD a 7) c d e f g h i j k l m n o)/\
 (∀ a:Nat->Bool,a 8=false->∀ c d e f g h i j k l m n o,b a c d e f g h i j k l m n o->
 b (aD a 8) c d e p1 g h i j k l m n o)/\
 (∀ a:Nat->Bool,a 9=false->a 3=true->a 7=true->a 8=true->∀ c d e f g h i j k l m n o,b a c d e f g h i j k l m n o->
 RR (aN (.func (.func 162) #[] #[]) [k,g,f]) o fun e o=>
 b (aD a 9) c d e f g h i j k l m n o)/\
 (∀ a:Nat->Bool,a 10=false->a 9=true->a 9=true->∀ c d e f g h i j k l m n o,b a c d e f g h i j k l m n o->
 RR (aN (.func (.func 161) #[] #[]) [e]) o fun d o=>
 b (aD a 10) c d e f g h i j k l m n o)/\
 (∀ a:Nat->Bool,a 11=false->a 10=true->a 10=true->a 0=true->a 1=true->a 2=true->a 3=true->a 4=true->a 5=true->a 6=true->a 7=true->a 8=true->a 9=true->a 10=true->∀ c d e f g h i j k l m n o,b a c d e f g h i j k l m n o->
 b (aD a 11) d d e f g h i j k l m n o)/\
 True)/\
 ∀ a:Nat->Bool,a 11=true->a 10=true->a 9=true->a 8=true->a 7=true->a 6=true->a 5=true->a 4=true->a 3=true->a 2=true->a 1=true->a 0=true->∀ c d e f g h i j k l m n o,b a c d e f g h i j k l m n o->
 R (.returned c) o)) (
 RR (aG .eql 9 false true b (.string ⟨#[92,61]⟩)) d fun c d=>
 CondV c (
 (∃ b:(Nat->Bool)->Value->Value->Value->Value->Value->Value->Value->Value->Value->Value->Value->Value->Value->Value->Value->World->Prop,b (fun _=>false) (.int .i64 0) undef undef undef undef undef undef undef undef undef undef undef undef undef undef { d with drawn:=d.drawn+1 }/\(
 (∀ c:Nat->Bool,c 0=false->∀ d e f g h i j k l m n o p q r s,b c d e f g h i j k l m n o p q r s->
 RR (sOp (.fieldAddr 36 (.const a) 3) 0) s fun a r=>
 b (aD c 0) d e f g h i j k l m n o p q a r)/\
 (∀ a:Nat->Bool,a 1=false->a 0=true->∀ c d e f g h i j k l m n o p q r,b a c d e f g h i j k l m n o p q r->
 RR (sOp (.load 34 (.const q)) 34) r fun p r=>
 b (aD a 1) c d e f g h i j k l m n o p q r)/\
 (∀ a:Nat->Bool,a 2=false->a 1=true->∀ c d e f g h i j k l m n o p q r,b a c d e f g h i j k l m n o p q r->
 RR (sOp (.indexAddr 34 (.const p) (.const (.int .i64 0))) 0) r fun o r=>
 b (aD a 2) c d e f g h i j k l m n o p q r)/\
 (∀ a:Nat->Bool,a 3=false->a 2=true->∀ c d e f g h i j k l m n o p q r,b a c d e f g h i j k l m n o p q r->
 RR (sOp (.load 36 (.const o)) 36) r fun n r=>
 b (aD a 3) c d e f g h i j k l m n o p q r)/\
 (∀ c:Nat->Bool,c 4=false->∀ d e f g h i j k l m n o p q r s,b c d e f g h i j k l m n o p q r s->
 RR (sOp (.fieldAddr 36 (.const a) 3) 0) s fun a n=>
 b (aD c 4) d e f g h i j k l m a o p q r n)/\
 (∀ a:Nat->Bool,a 5=false->a 4=true->∀ c d e f g h i j k l m n o p q r,b a c d e f g h i j k l m n o p q r->
 RR (sOp (.load 34 (.const m)) 34) r fun l r=>
 b (aD a 5) c d e f g h i j k l m n o p q r)/\
 (∀ a:Nat->Bool,a 6=false->a 5=true->∀ c d e f g h i j k l m n o p q r,b a c d e f g h i j k l m n o p q r->
 RR (sOp (.indexAddr 34 (.const l) (.const (.int .i64 1))) 0) r fun k r=>
 b (aD a 6) c d e f g h i j k l m n o p q r)/\
 (∀ a:Nat->Bool,a 7=false->a 6=true->∀ c d e f g h i j k l m n o p q r,b a c d e f g h i j k l m n o p q r->
 RR (sOp (.load 36 (.const k)) 36) r fun j r=>
 b (aD a 7) c d e f g h i j k l m n o p q r)/\
 (∀ a:Nat->Bool,a 8=false->∀ c d e f g h i j k l m n o p q r,b a c d e f g h i j k l m n o p q r->
 RR (bB 34 0 []) r fun i r=>
 b (aD a 8) c d e f g h i j k l m n o p q r)/\
 (∀ a:Nat->Bool,a 9=false->∀ c d e f g h i j k l m n o p q r,b a c d e f g h i j k l m n o p q r->
 b (aD a 9) c d e f g p1 i j k l m n o p q r)/\
 (∀ a:Nat->Bool,a 10=false->a 8=true->a 9=true->∀ c d e f g h i j k l m n o p q r,b a c d e f g h i j k l m n o p q r->
 RR (aM .append #[34,34] 34 [false,false] [i,h]) r fun g r=>
 b (aD a 10) c d e f g h i j k l m n o p q r)/\
 (∀ a:Nat->Bool,a 11=false->a 3=true->a 7=true->a 10=true->a 10=true->∀ c d e f g h i j k l m n o p q r,b a c d e f g h i j k l m n o p q r->
 RR (aN (.func (.func 162) #[] #[]) [n,j,g]) r fun f r=>
 b (aD a 11) c d e f g h i j k l m n o p q r)/\
 (∀ a:Nat->Bool,a 12=false->a 11=true->∀ c d e f g h i j k l m n o p q r,b a c d e f g h i j k l m n o p q r->
 RR (sOp (.unOp .not 4 (.const f)) 4) r fun e r=>
 b (aD a 12) c d e f g h i j k l m n o p q r)/\
 (∀ a:Nat->Bool,a 13=false->a 12=true->a 11=true->∀ c d e f g h i j k l m n o p q r,b a c d e f g h i j k l m n o p q r->
 RR (aN (.func (.func 161) #[] #[]) [e]) r fun d r=>
 b (aD a 13) c d e f g h i j k l m n o p q r)/\
 (∀ a:Nat->Bool,a 14=false->a 13=true->a 13=true->a 0=true->a 1=true->a 2=true->a 3=true->a 4=true->a 5=true->a 6=true->a 7=true->a 8=true->a 9=true->a 10=true->a 11=true->a 12=true->a 13=true->∀ c d e f g h i j k l m n o p q r,b a c d e f g h i j k l m n o p q r->
 b (aD a 14) d d e f g h i j k l m n o p q r)/\
 True)/\
 ∀ a:Nat->Bool,a 14=true->a 13=true->a 12=true->a 11=true->a 10=true->a 9=true->a 8=true->a 7=true->a 6=true->a 5=true->a 4=true->a 3=true->a 2=true->a 1=true->a 0=true->∀ c d e f g h i j k l m n o p q r,b a c d e f g h i j k l m n o p q r->
 R (.returned c) r)) (
 RR (aG .eql 9 false true b (.string ⟨#[61,61]⟩)) d fun c d=>
 CondV c (
 (∃ b:(Nat->Bool)->Value->Value->Value->Value->Value->Value->Value->Value->Value->Value->Value->World->Prop,b (fun _=>false) (.int .i64 0) undef undef undef undef undef undef undef undef undef undef { d with drawn:=d.drawn+1 }/\(
 (∀ c:Nat->Bool,c 0=false->∀ d e f g h i j k l m n o,b c d e f g h i j k l m n o->
 RR (sOp (.fieldAddr 36 (.const a) 3) 0) o fun a n=>
 b (aD c 0) d e f g h i j k l m a n)/\
 (∀ a:Nat->Bool,a 1=false->a 0=true->∀ c d e f g h i j k l m n,b a c d e f g h i j k l m n->
 RR (sOp (.load 34 (.const m)) 34) n fun l n=>
 b (aD a 1) c d e f g h i j k l m n)/\
 (∀ a:Nat->Bool,a 2=false->a 1=true->∀ c d e f g h i j k l m n,b a c d e f g h i j k l m n->
 RR (sOp (.indexAddr 34 (.const l) (.const (.int .i64 0))) 0) n fun k n=>
 b (aD a 2) c d e f g h i j k l m n)/\
 (∀ a:Nat->Bool,a 3=false->a 2=true->∀ c d e f g h i j k l m n,b a c d e f g h i j k l m n->
 RR (sOp (.load 36 (.const k)) 36) n fun j n=>
 b (aD a 3) c d e f g h i j k l m n)/\
 (∀ c:Nat->Bool,c 4=false->∀ d e f g h i j k l m n o,b c d e f g h i j k l m n o->
 RR (sOp (.fieldAddr 36 (.const a) 3) 0) o fun a j=>
 b (aD c 4) d e f g h i a k l m n j)/\
 (∀ a:Nat->Bool,a 5=false->a 4=true->∀ c d e f g h i j k l m n,b a c d e f g h i j k l m n->
 RR (sOp (.load 34 (.const i)) 34) n fun h n=>
 b (aD a 5) c d e f g h i j k l m n)/\
 (∀ a:Nat->Bool,a 6=false->a 5=true->∀ c d e f g h i j k l m n,b a c d e f g h i j k l m n->
 RR (sOp (.indexAddr 34 (.const h) (.const (.int .i64 1))) 0) n fun g n=>
 b (aD a 6) c d e f g h i j k l m n)/\
 (∀ a:Nat->Bool,a 7=false->a 6=true->∀ c d e f g h i j k l m n,b a c d e f g h i j k l m n->
 RR (sOp (.load 36 (.const g)) 36) n fun f n=>
 b (aD a 7) c d e f g h i j k l m n)/\
 (∀ a:Nat->Bool,a 8=false->a 3=true->a 7=true->∀ c d e f g h i j k l m n,b a c d e f g h i j k l m n->
 RR (aN (.func (.func 119) #[] #[]) [j,f]) n fun e n=>
 b (aD a 8) c d e f g h i j k l m n)/\
 (∀ a:Nat->Bool,a 9=false->a 8=true->a 8=true->∀ c d e f g h i j k l m n,b a c d e f g h i j k l m n->
 RR (aN (.func (.func 161) #[] #[]) [e]) n fun d n=>
 b (aD a 9) c d e f g h i j k l m n)/\
 (∀ a:Nat->Bool,a 10=false->a 9=true->a 9=true->a 0=true->a 1=true->a 2=true->a 3=true->a 4=true->a 5=true->a 6=true->a 7=true->a 8=true->a 9=true->∀ c d e f g h i j k l m n,b a c d e f g h i j k l m n->
 b (aD a 10) d d e f g h i j k l m n)/\
 True)/\
 ∀ a:Nat->Bool,a 10=true->a 9=true->a 8=true->a 7=true->a 6=true->a 5=true->a 4=true->a 3=true->a 2=true->a 1=true->a 0=true->∀ c d e f g h i j k l m n,b a c d e f g h i j k l m n->
 R (.returned c) n)) (
 RR (aG .eql 9 false true b (.string ⟨#[105,115]⟩)) d fun c d=>
 CondV c (
 RR (sOp (.fieldAddr 36 (.const a) 3) 0) d fun b c=>
 RR (sOp (.load 34 (.const b)) 34) c fun b c=>
 RR (sOp (.indexAddr 34 (.const b) (.const (.int .i64 1))) 0) c fun b c=>
 RR (sOp (.load 36 (.const b)) 36) c fun b c=>
 RR (aN (.func (.func 163) #[] #[]) [b]) c fun b c=>
 RR (sOp (.extract (.const b) 0) 3) c fun c d=>
 RR (sOp (.extract (.const b) 1) 3) d fun b d=>
 RR (aG .neq 3 false true b (.int .i64 0)) d fun d e=>
 CondV d (
 R (.returned b) e) (
 (∃ b:(Nat->Bool)->Value->Value->Value->Value->Value->Value->Value->Value->Value->Value->World->Prop,b (fun _=>false) (.int .i64 0) undef undef undef undef undef undef undef undef undef { e with drawn:=e.drawn+1 }/\(
 (∀ c:Nat->Bool,c 0=false->∀ d e f g h i j k l m n,b c d e f g h i j k l m n->
 RR (sOp (.fieldAddr 36 (.const a) 3) 0) n fun a m=>
 b (aD c 0) d e f g h i j k l a m)/\
 (∀ a:Nat->Bool,a 1=false->a 0=true->∀ c d e f g h i j k l m,b a c d e f g h i j k l m->
 RR (sOp (.load 34 (.const l)) 34) m fun k m=>
 b (aD a 1) c d e f g h i j k l m)/\
 (∀ a:Nat->Bool,a 2=false->a 1=true->∀ c d e f g h i j k l m,b a c d e f g h i j k l m->
 RR (sOp (.indexAddr 34 (.const k) (.const (.int .i64 0))) 0) m fun j m=>
 b (aD a 2) c d e f g h i j k l m)/\
 (∀ a:Nat->Bool,a 3=false->a 2=true->∀ c d e f g h i j k l m,b a c d e f g h i j k l m->
 RR (sOp (.load 36 (.const j)) 36) m fun i m=>
 b (aD a 3) c d e f g h i j k l m)/\
 (∀ a:Nat->Bool,a 4=false->∀ d e f g h i j k l m n,b a d e f g h i j k l m n->
 b (aD a 4) d e f g h c j k l m n)/\
 (∀ a:Nat->Bool,a 5=false->a 4=true->∀ c d e f g h i j k l m,b a c d e f g h i j k l m->
 RR (aN (.func (.func 106) #[] #[]) [h]) m fun g m=>
 b (aD a 5) c d e f g h i j k l m)/\
 (∀ a:Nat->Bool,a 6=false->∀ c d e f g h i j k l m,b a c d e f g h i j k l m->
 b (aD a 6) c d e p1 g h i j k l m)/\
 (∀ a:Nat->Bool,a 7=false->a 3=true->a 5=true->a 6=true->a 5=true->∀ c d e f g h i j k l m,b a c d e f g h i j k l m->
 RR (aN (.func (.func 162) #[] #[]) [i,g,f]) m fun e m=>
 b (aD a 7) c d e f g h i j k l m)/\
 (∀ a:Nat->Bool,a 8=false->a 7=true->a 7=true->∀ c d e f g h i j k l m,b a c d e f g h i j k l m->
 RR (aN (.func (.func 161) #[] #[]) [e]) m fun d m=>
 b (aD a 8) c d e f g h i j k l m)/\
 (∀ a:Nat->Bool,a 9=false->a 8=true->a 8=true->a 0=true->a 1=true->a 2=true->a 3=true->a 4=true->a 5=true->a 6=true->a 7=true->a 8=true->∀ c d e f g h i j k l m,b a c d e f g h i j k l m->
 b (aD a 9) d d e f g h i j k l m)/\
 True)/\
 ∀ a:Nat->Bool,a 9=true->a 8=true->a 7=true->a 6=true->a 5=true->a 4=true->a 3=true->a 2=true->a 1=true->a 0=true->∀ c d e f g h i j k l m,b a c d e f g h i j k l m->
 R (.returned c) m))) (
 RR (aG .eql 9 false true b (.string ⟨#[97,114,103]⟩)) d fun b c=>
 CondV b (
 RR (sOp (.load 36 (.const a)) 36) c fun b c=>
 RR (aN (.func (.func 164) #[] #[]) [b]) c fun b c=>
 RR (sOp (.extract (.const b) 0) 36) c fun c d=>
 RR (sOp (.extract (.const b) 1) 3) d fun b d=>
 RR (sOp (.alloc 36) 0) d fun d e=>
 RR (sOp (.store 36 (.const d) (.const c)) 0) e fun _ c=>
 RR (aG .neq 3 false true b (.int .i64 0)) c fun c e=>
 CondV c (
 R (.returned b) e) (
 (∃ b:(Nat->Bool)->Value->Value->Value->Value->Value->Value->Value->Value->Value->World->Prop,b (fun _=>false) (.int .i64 0) undef undef undef undef undef undef undef undef { e with drawn:=e.drawn+1 }/\(
 (∀ c:Nat->Bool,c 0=false->∀ d e f g h i j k l m,b c d e f g h i j k l m->
 RR (sOp (.fieldAddr 36 (.const a) 3) 0) m fun a l=>
 b (aD c 0) d e f g h i j k a l)/\
 (∀ a:Nat->Bool,a 1=false->a 0=true->∀ c d e f g h i j k l,b a c d e f g h i j k l->
 RR (sOp (.load 34 (.const k)) 34) l fun j l=>
 b (aD a 1) c d e f g h i j k l)/\
 (∀ a:Nat->Bool,a 2=false->a 1=true->∀ c d e f g h i j k l,b a c d e f g h i j k l->
 RR (sOp (.indexAddr 34 (.const j) (.const (.int .i64 2))) 0) l fun i l=>
 b (aD a 2) c d e f g h i j k l)/\
 (∀ a:Nat->Bool,a 3=false->a 2=true->∀ c d e f g h i j k l,b a c d e f g h i j k l->
 RR (sOp (.load 36 (.const i)) 36) l fun h l=>
 b (aD a 3) c d e f g h i j k l)/\
 (∀ a:Nat->Bool,a 4=false->∀ c e f g h i j k l m,b a c e f g h i j k l m->
 RR (sOp (.load 36 (.const d)) 36) m fun d h=>
 b (aD a 4) c e f g d i j k l h)/\
 (∀ a:Nat->Bool,a 5=false->∀ c d e f g h i j k l,b a c d e f g h i j k l->
 b (aD a 5) c d e p1 g h i j k l)/\
 (∀ a:Nat->Bool,a 6=false->a 3=true->a 4=true->a 5=true->∀ c d e f g h i j k l,b a c d e f g h i j k l->
 RR (aN (.func (.func 162) #[] #[]) [h,g,f]) l fun e l=>
 b (aD a 6) c d e f g h i j k l)/\
 (∀ a:Nat->Bool,a 7=false->a 6=true->a 6=true->∀ c d e f g h i j k l,b a c d e f g h i j k l->
 RR (aN (.func (.func 161) #[] #[]) [e]) l fun d l=>
 b (aD a 7) c d e f g h i j k l)/\
 (∀ a:Nat->Bool,a 8=false->a 7=true->a 7=true->a 0=true->a 1=true->a 2=true->a 3=true->a 4=true->a 5=true->a 6=true->a 7=true->∀ c d e f g h i j k l,b a c d e f g h i j k l->
 b (aD a 8) d d e f g h i j k l)/\
 True)/\
 ∀ a:Nat->Bool,a 8=true->a 7=true->a 6=true->a 5=true->a 4=true->a 3=true->a 2=true->a 1=true->a 0=true->∀ c d e f g h i j k l,b a c d e f g h i j k l->
 R (.returned c) l))) (
 RR (sOp (.fieldAddr 36 (.const a) 2) 0) c fun b c=>
 RR (sOp (.load 9 (.const b)) 9) c fun b c=>
 RR (aN (.func (.func 165) #[] #[]) [b]) c fun b c=>
 CondV b (
 RR (sOp (.load 36 (.const a)) 36) c fun a b=>
 RR (aN (.func (.func 166) #[] #[]) [a]) b fun a b=>
 R (.returned a) b) (
 RR (sOp (.load 36 (.const a)) 36) c fun a b=>
 RR (aN (.func (.func 167) #[] #[]) [a]) b fun a b=>
 R (.returned a) b))))))))
theorem tS {p0 p1:Value} {w:World} {R:Ending->World->Prop} (h:pl p0 p1 w R):Calls Tryz.prog 138 #[p0,p1] w R:=
  aQ .leaf [p0,p1] bl Tryz.func138 (by kernel_rfl) (by kernel_rfl) h


/- loop.example/prologserver/spec.l1Vars : function 140 -/
def se (p0 p1:Value) (w:World) (R:Ending->World->Prop):Prop:=
 RR (sOp (.box 36 (.const p1)) 0) w fun a b=>
 RR (sOp (.fieldAddr 36 (.const a) 0) 0) b fun b c=>
 RR (sOp (.load 3 (.const b)) 3) c fun b c=>
 RR (aG .eql 3 false true b (.int .i64 1)) c fun b c=>
 CondV b (
 (∃ (b:Value->World->Prop) (d:Value->World->Nat),b (.int .i64 0) c/\
 ∀ c _ _ _ _ e f g h i j k _ _ _ _:Value,∀ l:World,b c l->
 RR (aM .len #[49] 3 [false] [p0]) l fun m n=>
 RR (aG .lss 3 false false c m) n fun m n=>
 CondV m (
 (∃ m:(Nat->Bool)->Value->Value->Value->Value->Value->Value->Value->World->Prop,m (fun _=>false) e f g h i j k { n with drawn:=n.drawn+1 }/\(
 (∀ a:Nat->Bool,a 0=false->∀ b c d e f g h i,m a b c d e f g h i->
 m (aD a 0) b c d e f g p0 i)/\
 (∀ a:Nat->Bool,a 1=false->∀ b d e f g h i j,m a b d e f g h i j->
 m (aD a 1) b d e f g c i j)/\
 (∀ a:Nat->Bool,a 2=false->a 0=true->a 1=true->∀ b c d e f g h i,m a b c d e f g h i->
 RR (sOp (.indexAddr 49 (.const h) (.const g)) 0) i fun f i=>
 m (aD a 2) b c d e f g h i)/\
 (∀ a:Nat->Bool,a 3=false->a 2=true->∀ b c d e f g h i,m a b c d e f g h i->
 RR (sOp (.load 3 (.const f)) 3) i fun e i=>
 m (aD a 3) b c d e f g h i)/\
 (∀ b:Nat->Bool,b 4=false->∀ c d e f g h i j,m b c d e f g h i j->
 RR (sOp (.fieldAddr 36 (.const a) 1) 0) j fun a e=>
 m (aD b 4) c d a f g h i e)/\
 (∀ a:Nat->Bool,a 5=false->a 4=true->∀ b c d e f g h i,m a b c d e f g h i->
 RR (sOp (.load 3 (.const d)) 3) i fun c i=>
 m (aD a 5) b c d e f g h i)/\
 (∀ a:Nat->Bool,a 6=false->a 3=true->a 5=true->∀ b c d e f g h i,m a b c d e f g h i->
 RR (aG .eql 3 false false e c) i fun b i=>
 m (aD a 6) b c d e f g h i)/\
 True)/\
 ∀ a:Nat->Bool,a 6=true->a 5=true->a 4=true->a 3=true->a 2=true->a 1=true->a 0=true->∀ e f g h i j k n,m a e f g h i j k n->
 CondV e (
 R (.returned p0) n) (
 RR (aG .add 3 false true c (.int .i64 1)) n fun a e=>
 b a e/\d a e<d c l))) (
 RR (sOp (.fieldAddr 36 (.const a) 1) 0) n fun a b=>
 RR (sOp (.load 3 (.const a)) 3) b fun a b=>
 RR (bB 49 1 [(0,a)]) b fun a b=>
 RR (aM .append #[49,49] 49 [false,false] [p0,a]) b fun a b=>
 R (.returned a) b))) (
 (∃ (b:Value->Value->World->Prop) (d:Value->Value->World->Nat),b (.int .i64 0) p0 c/\
 ∀ c _ _ e _ _ _ _ _ _ _ _ _ _ _ _:Value,∀ f:World,b c e f->
 RR (sOp (.fieldAddr 36 (.const a) 3) 0) f fun g h=>
 RR (sOp (.load 34 (.const g)) 34) h fun g h=>
 RR (aM .len #[34] 3 [false] [g]) h fun g h=>
 RR (aG .lss 3 false false c g) h fun g h=>
 CondV g (
 RR (sOp (.fieldAddr 36 (.const a) 3) 0) h fun a g=>
 RR (sOp (.load 34 (.const a)) 34) g fun a g=>
 RR (sOp (.indexAddr 34 (.const a) (.const c)) 0) g fun a g=>
 RR (sOp (.load 36 (.const a)) 36) g fun a g=>
 RR (aN (.func (.func 140) #[] #[]) [e,a]) g fun a g=>
 RR (aG .add 3 false true c (.int .i64 1)) g fun g h=>
 b g a h/\d g a h<d c e f) (
 R (.returned e) h)))
theorem wi {p0 p1:Value} {w:World} {R:Ending->World->Prop} (h:se p0 p1 w R):Calls Tryz.prog 140 #[p0,p1] w R:=
  aQ (.seq none .leaf (.seq none (.seq none .leaf (.two (.seq none (.seq none .leaf (.one (.loop [5] .leaf))) .leaf) .leaf)) (.seq none (.seq none .leaf (.one (.loop [6,0] .leaf))) .leaf))) [p0,p1] bl Tryz.func140 (by kernel_rfl) (by kernel_rfl) h


/- loop.example/prologserver/impl.NameValid : function 141 -/
def l3 (p0:Value) (w:World) (R:Ending->World->Prop):Prop:=
 RR (aN (.func (.func 109) #[] #[]) [p0]) w fun a b=>
 ak a false (
 RR (aN (.func (.func 168) #[] #[]) []) b fun b c=>
 RR (aN (.func (.func 147) #[] #[]) [b,p0]) c fun b c=>
 RR (sOp (.pick (.const a) (.const (.bool true)) (.const b)) 4) c fun a b=>
 R (.returned a) b) (
 RR (sOp (.pick (.const a) (.const (.bool true)) (.const undef)) 4) b fun a b=>
 R (.returned a) b)
theorem pR {p0:Value} {w:World} {R:Ending->World->Prop} (h:l3 p0 w R):Calls Tryz.prog 141 #[p0] w R:=
  aQ .leaf [p0] bl Tryz.func141 (by kernel_rfl) (by kernel_rfl) h


/- loop.example/prologserver/impl.scan$1 : function 142 -/
def si (p0 p1 p2:Value) (w:World) (R:Ending->World->Prop):Prop:=
 RR (sOp (.box 36 (.const p0)) 0) w fun a b=>
 RR (sOp (.load 36 (.const a)) 36) b fun a b=>
 RR (sOp (.load 3 (.const p1)) 3) b fun b c=>
 RR (aG .add 3 false true b (.int .i64 1)) c fun b c=>
 RR (sOp (.load 70 (.const p2)) 70) c fun c d=>
 RR (aN (.func (.func 108) #[] #[]) [a,b,c]) d fun a b=>
 RR (sOp (.unOp .not 4 (.const a)) 4) b fun a b=>
 R (.returned a) b
theorem wa {p0 p1 p2:Value} {w:World} {R:Ending->World->Prop} (h:si p0 p1 p2 w R):Calls Tryz.prog 142 #[p0,p1,p2] w R:=
  aQ .leaf [p0,p1,p2] bl Tryz.func142 (by kernel_rfl) (by kernel_rfl) h


/- loop.example/prologserver/impl.OpLevel : function 143 -/
def pY (p0:Value) (w:World) (R:Ending->World->Prop):Prop:=
 (∃ a:Value->World->Prop,(
 RR (aG .eql 9 false true p0 (.string ⟨#[61]⟩)) w fun b c=>
 CondV b (
 a b c) (
 RR (aG .eql 9 false true p0 (.string ⟨#[92,61]⟩)) c fun b c=>
 CondV b (
 a b c) (
 RR (aG .eql 9 false true p0 (.string ⟨#[61,61]⟩)) c fun b c=>
 CondV b (
 a b c) (
 RR (aG .eql 9 false true p0 (.string ⟨#[60]⟩)) c fun b c=>
 CondV b (
 a b c) (
 RR (aG .eql 9 false true p0 (.string ⟨#[62]⟩)) c fun b c=>
 CondV b (
 a b c) (
 RR (aG .eql 9 false true p0 (.string ⟨#[61,60]⟩)) c fun b c=>
 CondV b (
 a b c) (
 RR (aG .eql 9 false true p0 (.string ⟨#[62,61]⟩)) c fun b c=>
 CondV b (
 a b c) (
 RR (aG .eql 9 false true p0 (.string ⟨#[61,58,61]⟩)) c fun b c=>
 CondV b (
 a b c) (
 RR (aG .eql 9 false true p0 (.string ⟨#[105,115]⟩)) c fun b c=>
 a b c)))))))))/\
 ∀ _ _ _ _ _ _ _ _ b _:Value,∀ c:World,a b c->
 CondV b (
 R (.returned (.tuple #[(.int .i64 3),(.bool false)])) c) (
 (∃ a:Value->World->Prop,(
 RR (aG .eql 9 false true p0 (.string ⟨#[43]⟩)) c fun b c=>
 CondV b (
 a b c) (
 RR (aG .eql 9 false true p0 (.string ⟨#[45]⟩)) c fun b c=>
 a b c))/\
 ∀ _ b _:Value,∀ c:World,a b c->
 CondV b (
 R (.returned (.tuple #[(.int .i64 2),(.bool true)])) c) (
 (∃ a:Value->World->Prop,(
 RR (aG .eql 9 false true p0 (.string ⟨#[42]⟩)) c fun b c=>
 CondV b (
 a b c) (
 RR (aG .eql 9 false true p0 (.string ⟨#[47,47]⟩)) c fun b c=>
 CondV b (
 a b c) (
 RR (aG .eql 9 false true p0 (.string ⟨#[109,111,100]⟩)) c fun b c=>
 a b c)))/\
 ∀ _ _ b _:Value,∀ c:World,a b c->
 CondV b (
 R (.returned (.tuple #[(.int .i64 1),(.bool true)])) c) (
 R (.returned (.tuple #[(.int .i64 0),(.bool false)])) c))))))
theorem tW {p0:Value} {w:World} {R:Ending->World->Prop} (h:pY p0 w R):Calls Tryz.prog 143 #[p0] w R:=
  aQ (.seq none .leaf (.seq none (.seq none .leaf (.one (.seq (some [5]) .leaf (.two .leaf (.seq (some [15]) .leaf (.two .leaf (.seq (some [18]) .leaf .leaf))))))) .leaf)) [p0] bl Tryz.func143 (by kernel_rfl) (by kernel_rfl) h


/- slices.IndexFunc[[]loop.example/prologserver/impl.Term,loop.example/prologserver/impl.Term] : function 144 -/
def fg (p0 p1:Value) (w:World) (R:Ending->World->Prop):Prop:=
 RR (aM .len #[34] 3 [false] [p0]) w fun a b=>
 (∃ (c:Value->World->Prop) (d:Value->World->Nat),c (.int .i64 0) b/\
 ∀ b _ _ _ _ _ _ _ _ _ _ _ _:Value,∀ e:World,c b e->
 RR (aG .lss 3 false false b a) e fun a f=>
 CondV a (
 RR (sOp (.indexAddr 34 (.const p0) (.const b)) 0) f fun a f=>
 RR (sOp (.load 36 (.const a)) 36) f fun a f=>
 RR (aN p1 [a]) f fun a f=>
 CondV a (
 R (.returned b) f) (
 RR (aG .add 3 false true b (.int .i64 1)) f fun a f=>
 c a f/\d a f<d b e)) (
 R (.returned (.int .i64 (-1))) f))
theorem f4 {p0 p1:Value} {w:World} {R:Ending->World->Prop} (h:fg p0 p1 w R):Calls Tryz.prog 144 #[p0,p1] w R:=
  aQ (.seq none .leaf (.seq none (.seq none .leaf (.one (.loop [8] .leaf))) .leaf)) [p0,p1] bl Tryz.func144 (by kernel_rfl) (by kernel_rfl) h


/- loop.example/prologserver/spec.l1Own : function 145 -/
def vj (p0:Value) (w:World) (R:Ending->World->Prop):Prop:=
 RR (sOp (.box 36 (.const p0)) 0) w fun a b=>
 RR (sOp (.fieldAddr 36 (.const a) 0) 0) b fun b c=>
 RR (sOp (.load 3 (.const b)) 3) c fun b c=>
 RR (aG .eql 3 false true b (.int .i64 1)) c fun c d=>
 CondV c (
 RR (sOp (.fieldAddr 36 (.const a) 1) 0) d fun b c=>
 RR (sOp (.load 3 (.const b)) 3) c fun b c=>
 RR (aG .geq 3 false true b (.int .i64 0)) c fun b c=>
 ((fun d:VW=>ak b true (
 RR (sOp (.fieldAddr 36 (.const a) 1) 0) c fun a c=>
 RR (sOp (.load 3 (.const a)) 3) c fun a c=>
 RR (aG .leq 3 false true a (.int .i64 25)) c fun a c=>
 RR (sOp (.pick (.const b) (.const a) (.const (.bool false))) 4) c fun a b=>d a b) (
 RR (sOp (.pick (.const b) (.const undef) (.const (.bool false))) 4) c fun a b=>d a b)) fun b c=>
 ((fun d:VW=>ak b true (
 RR (sOp (.fieldAddr 36 (.const a) 2) 0) c fun a c=>
 RR (sOp (.load 9 (.const a)) 9) c fun a c=>
 RR (aG .eql 9 false true a (.string ⟨#[]⟩)) c fun a c=>
 RR (sOp (.pick (.const b) (.const a) (.const (.bool false))) 4) c fun a b=>d a b) (
 RR (sOp (.pick (.const b) (.const undef) (.const (.bool false))) 4) c fun a b=>d a b)) fun b c=>
 ak b true (
 RR (sOp (.fieldAddr 36 (.const a) 3) 0) c fun a c=>
 RR (sOp (.load 34 (.const a)) 34) c fun a c=>
 RR (aM .len #[34] 3 [false] [a]) c fun a c=>
 RR (aG .eql 3 false true a (.int .i64 0)) c fun a c=>
 RR (sOp (.pick (.const b) (.const a) (.const (.bool false))) 4) c fun a b=>
 R (.returned a) b) (
 RR (sOp (.pick (.const b) (.const undef) (.const (.bool false))) 4) c fun a b=>
 R (.returned a) b)))) (
 RR (aG .eql 3 false true b (.int .i64 2)) d fun c d=>
 CondV c (
 RR (sOp (.fieldAddr 36 (.const a) 1) 0) d fun b c=>
 RR (sOp (.load 3 (.const b)) 3) c fun b c=>
 RR (aG .geq 3 false true b (.int .i64 (-999))) c fun b c=>
 ((fun d:VW=>ak b true (
 RR (sOp (.fieldAddr 36 (.const a) 1) 0) c fun a c=>
 RR (sOp (.load 3 (.const a)) 3) c fun a c=>
 RR (aG .leq 3 false true a (.int .i64 999)) c fun a c=>
 RR (sOp (.pick (.const b) (.const a) (.const (.bool false))) 4) c fun a b=>d a b) (
 RR (sOp (.pick (.const b) (.const undef) (.const (.bool false))) 4) c fun a b=>d a b)) fun b c=>
 ((fun d:VW=>ak b true (
 RR (sOp (.fieldAddr 36 (.const a) 2) 0) c fun a c=>
 RR (sOp (.load 9 (.const a)) 9) c fun a c=>
 RR (aG .eql 9 false true a (.string ⟨#[]⟩)) c fun a c=>
 RR (sOp (.pick (.const b) (.const a) (.const (.bool false))) 4) c fun a b=>d a b) (
 RR (sOp (.pick (.const b) (.const undef) (.const (.bool false))) 4) c fun a b=>d a b)) fun b c=>
 ak b true (
 RR (sOp (.fieldAddr 36 (.const a) 3) 0) c fun a c=>
 RR (sOp (.load 34 (.const a)) 34) c fun a c=>
 RR (aM .len #[34] 3 [false] [a]) c fun a c=>
 RR (aG .eql 3 false true a (.int .i64 0)) c fun a c=>
 RR (sOp (.pick (.const b) (.const a) (.const (.bool false))) 4) c fun a b=>
 R (.returned a) b) (
 RR (sOp (.pick (.const b) (.const undef) (.const (.bool false))) 4) c fun a b=>
 R (.returned a) b)))) (
 RR (aG .eql 3 false true b (.int .i64 3)) d fun b c=>
 CondV b (
 RR (sOp (.fieldAddr 36 (.const a) 1) 0) c fun b c=>
 RR (sOp (.load 3 (.const b)) 3) c fun b c=>
 RR (aG .eql 3 false true b (.int .i64 0)) c fun b c=>
 ((fun d:VW=>ak b true (
 RR (sOp (.fieldAddr 36 (.const a) 2) 0) c fun a c=>
 RR (sOp (.load 9 (.const a)) 9) c fun a c=>
 RR (aN (.func (.func 169) #[] #[]) [a]) c fun a c=>
 RR (sOp (.pick (.const b) (.const a) (.const (.bool false))) 4) c fun a b=>d a b) (
 RR (sOp (.pick (.const b) (.const undef) (.const (.bool false))) 4) c fun a b=>d a b)) fun b c=>
 ak b true (
 RR (sOp (.fieldAddr 36 (.const a) 3) 0) c fun a c=>
 RR (sOp (.load 34 (.const a)) 34) c fun a c=>
 RR (aM .len #[34] 3 [false] [a]) c fun a c=>
 RR (aG .leq 3 false true a (.int .i64 4)) c fun a c=>
 RR (sOp (.pick (.const b) (.const a) (.const (.bool false))) 4) c fun a b=>
 R (.returned a) b) (
 RR (sOp (.pick (.const b) (.const undef) (.const (.bool false))) 4) c fun a b=>
 R (.returned a) b))) (
 R (.returned (.bool false)) c)))
theorem wS {p0:Value} {w:World} {R:Ending->World->Prop} (h:vj p0 w R):Calls Tryz.prog 145 #[p0] w R:=
  aQ .leaf [p0] bl Tryz.func145 (by kernel_rfl) (by kernel_rfl) h


/- loop.example/prologserver/spec.l3Full : function 146 -/
def sP (p0 p1 p2:Value) (w:World) (R:Ending->World->Prop):Prop:=
 RR (sOp (.box 36 (.const p0)) 0) w fun a b=>
 RR (sOp (.alloc 36) 0) b fun b c=>
 RR (aG .lss 3 false true p2 (.int .i64 1)) c fun c d=>
 CondV c (
 RR (dn 36 []) d fun a c=>
 RR (sOp (.store 36 (.const b) (.const a)) 0) c fun _ a=>
 (bg Tryz.prog 36 b a fun b=>R (.returned (.tuple #[b,(.int .i64 (-1))])) a)) (
 RR (sOp (.load 36 (.const a)) 36) d fun c d=>
 RR (aN (.func (.func 170) #[] #[]) [c,p1]) d fun c d=>
 RR (sOp (.store 36 (.const a) (.const c)) 0) d fun _ c=>
 RR (sOp (.fieldAddr 36 (.const a) 0) 0) c fun c d=>
 RR (sOp (.load 3 (.const c)) 3) d fun c d=>
 RR (sOp (.fieldAddr 36 (.const a) 1) 0) d fun d e=>
 RR (sOp (.load 3 (.const d)) 3) e fun d e=>
 RR (sOp (.fieldAddr 36 (.const a) 2) 0) e fun e f=>
 RR (sOp (.load 9 (.const e)) 9) f fun e f=>
 RR (dn 36 [(0,c),(1,d),(2,e)]) f fun c d=>
 RR (sOp (.alloc 36) 0) d fun d e=>
 RR (sOp (.store 36 (.const d) (.const c)) 0) e fun _ c=>
 RR (aG .sub 3 false true p2 (.int .i64 1)) c fun c e=>
 (∃ (f:Value->Value->World->Prop) (g:Value->Value->World->Nat),f (.int .i64 0) c e/\
 ∀ c _ _ e _ _ _ _ _ _ _ _ _ _ _ _ _ _ _ _ _ _ _ _ _ _ _ _ _ _ _ _ _:Value,∀ h:World,f c e h->
 (∃ i:Value->World->Prop,(
 RR (sOp (.fieldAddr 36 (.const a) 3) 0) h fun a b=>
 RR (sOp (.load 34 (.const a)) 34) b fun a b=>
 RR (aM .len #[34] 3 [false] [a]) b fun a b=>
 RR (aG .lss 3 false false c a) b fun a b=>
 ak a true (
 RR (aG .geq 3 false true e (.int .i64 0)) b fun b c=>
 RR (sOp (.pick (.const a) (.const b) (.const (.bool false))) 4) c fun a b=>
 i a b) (
 RR (sOp (.pick (.const a) (.const undef) (.const (.bool false))) 4) b fun a b=>
 i a b))/\
 ∀ j _ _ _ _ _ _ _ _:Value,∀ k:World,i j k->
 CondV j (
 RR (sOp (.fieldAddr 36 (.const a) 3) 0) k fun a b=>
 RR (sOp (.load 34 (.const a)) 34) b fun a b=>
 RR (sOp (.indexAddr 34 (.const a) (.const c)) 0) b fun a b=>
 RR (sOp (.load 36 (.const a)) 36) b fun a b=>
 RR (aN (.func (.func 146) #[] #[]) [a,p1,e]) b fun a b=>
 RR (sOp (.extract (.const a) 0) 36) b fun b i=>
 RR (sOp (.extract (.const a) 1) 3) i fun a i=>
 RR (sOp (.alloc 36) 0) i fun i j=>
 RR (sOp (.store 36 (.const i) (.const b)) 0) j fun _ b=>
 RR (sOp (.fieldAddr 36 (.const d) 3) 0) b fun b j=>
 RR (sOp (.load 34 (.const b)) 34) j fun b j=>
 RR (sOp (.load 36 (.const i)) 36) j fun i j=>
 RR (bB 34 1 [(0,i)]) j fun i j=>
 RR (aM .append #[34,34] 34 [false,false] [b,i]) j fun b i=>
 RR (sOp (.fieldAddr 36 (.const d) 3) 0) i fun d i=>
 RR (sOp (.store 34 (.const d) (.const b)) 0) i fun _ b=>
 RR (aG .add 3 false true c (.int .i64 1)) b fun b d=>
 f b a d/\g b a d<g c e h) (
 RR (sOp (.load 36 (.const d)) 36) k fun a c=>
 RR (sOp (.store 36 (.const b) (.const a)) 0) c fun _ a=>
 (bg Tryz.prog 36 b a fun b=>R (.returned (.tuple #[b,e])) a)))))
theorem vM {p0 p1 p2:Value} {w:World} {R:Ending->World->Prop} (h:sP p0 p1 p2 w R):Calls Tryz.prog 146 #[p0,p1,p2] w R:=
  aQ (.seq none .leaf (.seq none .leaf (.seq none .leaf (.seq none .leaf (.seq none .leaf (.seq none (.seq none .leaf (.one (.loop [10,9] (.seq none (.seq (some [36]) .leaf .leaf) .leaf)))) .leaf)))))) [p0,p1,p2] bl Tryz.func146 (by kernel_rfl) (by kernel_rfl) h


/- slices.Contains[[]string,string] : function 147 -/
def gT (p0 p1:Value) (w:World) (R:Ending->World->Prop):Prop:=
 RR (aN (.func (.func 171) #[] #[]) [p0,p1]) w fun a b=>
 RR (aG .geq 3 false true a (.int .i64 0)) b fun a b=>
 R (.returned a) b
theorem j4 {p0 p1:Value} {w:World} {R:Ending->World->Prop} (h:gT p0 p1 w R):Calls Tryz.prog 147 #[p0,p1] w R:=
  aQ .leaf [p0,p1] bl Tryz.func147 (by kernel_rfl) (by kernel_rfl) h


/- (*loop.example/prologserver/impl.store).walk : function 148 -/
def lc (p0 p1:Value) (w:World) (R:Ending->World->Prop):Prop:=
 RR (sOp (.box 36 (.const p1)) 0) w fun a b=>
 RR (sOp (.alloc 36) 0) b fun b c=>
 (∃ d:World->Prop,(
 (∃ (b:World->Prop) (e:World->Nat),b c/\
 ∀ _ _ _ c f g h i j k l m n o p _ _ _:Value,∀ q:World,b q->
 RR (sOp (.fieldAddr 36 (.const a) 0) 0) q fun r s=>
 RR (sOp (.load 3 (.const r)) 3) s fun r s=>
 RR (aG .eql 3 false true r (.int .i64 1)) s fun r s=>
 CondV r (
 (∃ r:(Nat->Bool)->Value->Value->Value->Value->Value->Value->Value->Value->Value->Value->Value->Value->World->Prop,r (fun _=>false) c f g h i j k l m n o p { s with drawn:=s.drawn+1 }/\(
 (∀ a:Nat->Bool,a 0=false->∀ b c d e f g h i j k l m n,r a b c d e f g h i j k l m n->
 r (aD a 0) b c d e f g h i j k l p0 n)/\
 (∀ a:Nat->Bool,a 1=false->a 0=true->∀ b c d e f g h i j k l m n,r a b c d e f g h i j k l m n->
 RR (sOp (.nilCheck (.const m)) 0) n fun l n=>
 r (aD a 1) b c d e f g h i j k l m n)/\
 (∀ a:Nat->Bool,a 2=false->a 1=true->∀ b c d e f g h i j k l m n,r a b c d e f g h i j k l m n->
 RR (sOp (.fieldAddr 155 (.const l) 0) 0) n fun k n=>
 r (aD a 2) b c d e f g h i j k l m n)/\
 (∀ a:Nat->Bool,a 3=false->a 2=true->∀ b c d e f g h i j k l m n,r a b c d e f g h i j k l m n->
 RR (sOp (.load 92 (.const k)) 92) n fun j n=>
 r (aD a 3) b c d e f g h i j k l m n)/\
 (∀ b:Nat->Bool,b 4=false->∀ c d e f g h i j k l m n o,r b c d e f g h i j k l m n o->
 RR (sOp (.fieldAddr 36 (.const a) 1) 0) o fun a j=>
 r (aD b 4) c d e f g h i a k l m n j)/\
 (∀ a:Nat->Bool,a 5=false->a 4=true->∀ b c d e f g h i j k l m n,r a b c d e f g h i j k l m n->
 RR (sOp (.load 3 (.const i)) 3) n fun h n=>
 r (aD a 5) b c d e f g h i j k l m n)/\
 (∀ a:Nat->Bool,a 6=false->a 3=true->a 5=true->∀ b c d e f g h i j k l m n,r a b c d e f g h i j k l m n->
 RR (sOp (.lookup 92 (.const j) (.const h) true) 118) n fun g n=>
 r (aD a 6) b c d e f g h i j k l m n)/\
 (∀ a:Nat->Bool,a 7=false->a 6=true->∀ b c d e f g h i j k l m n,r a b c d e f g h i j k l m n->
 r (aD a 7) b c d e g g h i j k l m n)/\
 (∀ a:Nat->Bool,a 8=false->a 7=true->∀ b c d e f g h i j k l m n,r a b c d e f g h i j k l m n->
 RR (sOp (.extract (.const f) 0) 36) n fun e n=>
 r (aD a 8) b c d e f g h i j k l m n)/\
 (∀ a:Nat->Bool,a 9=false->a 7=true->∀ b c d e f g h i j k l m n,r a b c d e f g h i j k l m n->
 RR (sOp (.extract (.const f) 1) 4) n fun d n=>
 r (aD a 9) b c d e f g h i j k l m n)/\
 (∀ a:Nat->Bool,a 10=false->∀ b c d e f g h i j k l m n,r a b c d e f g h i j k l m n->
 RR (sOp (.alloc 36) 0) n fun c n=>
 r (aD a 10) b c d e f g h i j k l m n)/\
 (∀ a:Nat->Bool,a 11=false->a 10=true->a 8=true->a 0=true->a 1=true->a 2=true->a 3=true->a 4=true->a 5=true->a 6=true->a 7=true->a 8=true->a 10=true->∀ b c d e f g h i j k l m n,r a b c d e f g h i j k l m n->
 RR (sOp (.store 36 (.const c) (.const e)) 0) n fun _ n=>
 r (aD a 11) b c d e f g h i j k l m n)/\
 (∀ a:Nat->Bool,a 12=false->a 9=true->a 11=true->a 0=true->a 1=true->a 2=true->a 3=true->a 4=true->a 5=true->a 6=true->a 7=true->a 8=true->a 9=true->a 10=true->a 11=true->∀ b c d e f g h i j k l m n,r a b c d e f g h i j k l m n->
 r (aD a 12) d c d e f g h i j k l m n)/\
 True)/\
 ∀ c:Nat->Bool,c 12=true->c 11=true->c 10=true->c 9=true->c 8=true->c 7=true->c 6=true->c 5=true->c 4=true->c 3=true->c 2=true->c 1=true->c 0=true->∀ f g h i j k l m n o p s t,r c f g h i j k l m n o p s t->
 RR (sOp (.unOp .not 4 (.const f)) 4) t fun c f=>
 CondV c (
 d f) (
 RR (sOp (.load 36 (.const g)) 36) f fun c d=>
 RR (sOp (.store 36 (.const a) (.const c)) 0) d fun _ a=>
 b a/\e a<e q))) (
 d s)))/\
 ∀ _ _ _ _ _ _ _ _ _ _ _ _ _ _ _ _ _ _:Value,∀ c:World,d c->
 RR (sOp (.load 36 (.const a)) 36) c fun a c=>
 RR (sOp (.store 36 (.const b) (.const a)) 0) c fun _ a=>
 (bg Tryz.prog 36 b a fun b=>R (.returned b) a))
theorem oz {p0 p1:Value} {w:World} {R:Ending->World->Prop} (h:lc p0 p1 w R):Calls Tryz.prog 148 #[p0,p1] w R:=
  aQ (.seq none .leaf (.seq (some []) (.one (.loop [] .leaf)) .leaf)) [p0,p1] bl Tryz.func148 (by kernel_rfl) (by kernel_rfl) h


/- (*loop.example/prologserver/impl.store).bind : function 149 -/
def ll (p0 p1 p2:Value) (w:World) (R:Ending->World->Prop):Prop:=
 RR (sOp (.box 36 (.const p2)) 0) w fun a b=>
 RR (sOp (.load 36 (.const a)) 36) b fun b c=>
 RR (sOp (.makeMap 207 none) 207) c fun c d=>
 RR (aN (.func (.func 172) #[] #[]) [p0,p1,b,c]) d fun b c=>
 CondV b (
 R (.returned (.bool false)) c) (
 (∃ b:(Nat->Bool)->Value->Value->Value->Value->Value->Value->World->Prop,b (fun _=>false) undef undef undef undef undef undef { c with drawn:=c.drawn+1 }/\(
 (∀ a:Nat->Bool,a 0=false->∀ c d e f g h i,b a c d e f g h i->
 b (aD a 0) c d e f g p0 i)/\
 (∀ a:Nat->Bool,a 1=false->a 0=true->∀ c d e f g h i,b a c d e f g h i->
 RR (sOp (.nilCheck (.const h)) 0) i fun g i=>
 b (aD a 1) c d e f g h i)/\
 (∀ a:Nat->Bool,a 2=false->a 1=true->∀ c d e f g h i,b a c d e f g h i->
 RR (sOp (.fieldAddr 155 (.const g) 0) 0) i fun f i=>
 b (aD a 2) c d e f g h i)/\
 (∀ a:Nat->Bool,a 3=false->a 2=true->∀ c d e f g h i,b a c d e f g h i->
 RR (sOp (.load 92 (.const f)) 92) i fun e i=>
 b (aD a 3) c d e f g h i)/\
 (∀ a:Nat->Bool,a 4=false->∀ c d e f g h i,b a c d e f g h i->
 b (aD a 4) c p1 e f g h i)/\
 (∀ c:Nat->Bool,c 5=false->∀ d e f g h i j,b c d e f g h i j->
 RR (sOp (.load 36 (.const a)) 36) j fun a d=>
 b (aD c 5) a e f g h i d)/\
 (∀ a:Nat->Bool,a 6=false->a 3=true->a 4=true->a 5=true->a 0=true->a 1=true->a 2=true->a 3=true->a 4=true->a 5=true->∀ c d e f g h i,b a c d e f g h i->
 RR (sOp (.mapUpdate 92 (.const e) (.const d) (.const c)) 0) i fun _ i=>
 b (aD a 6) c d e f g h i)/\
 True)/\
 ∀ a:Nat->Bool,a 6=true->a 5=true->a 4=true->a 3=true->a 2=true->a 1=true->a 0=true->∀ c d e f g h i,b a c d e f g h i->
 RR (sOp (.nilCheck (.const p0)) 0) i fun a b=>
 RR (sOp (.fieldAddr 155 (.const a) 1) 0) b fun a b=>
 RR (sOp (.load 49 (.const a)) 49) b fun a b=>
 RR (bB 49 1 [(0,p1)]) b fun b c=>
 RR (aM .append #[49,49] 49 [false,false] [a,b]) c fun a b=>
 RR (sOp (.nilCheck (.const p0)) 0) b fun b c=>
 RR (sOp (.fieldAddr 155 (.const b) 1) 0) c fun b c=>
 RR (sOp (.store 49 (.const b) (.const a)) 0) c fun _ a=>
 R (.returned (.bool true)) a))
theorem ow {p0 p1 p2:Value} {w:World} {R:Ending->World->Prop} (h:ll p0 p1 p2 w R):Calls Tryz.prog 149 #[p0,p1,p2] w R:=
  aQ .leaf [p0,p1,p2] bl Tryz.func149 (by kernel_rfl) (by kernel_rfl) h


/- (*loop.example/prologserver/impl.store).resolving : function 150 -/
def gO (p0 p1 p2 p3:Value) (w:World) (R:Ending->World->Prop):Prop:=
 RR (sOp (.box 36 (.const p1)) 0) w fun a b=>
 RR (sOp (.alloc 36) 0) b fun b c=>
 RR (sOp (.load 36 (.const a)) 36) c fun c d=>
 RR (aN (.func (.func 148) #[] #[]) [p0,c]) d fun c d=>
 RR (sOp (.store 36 (.const a) (.const c)) 0) d fun _ c=>
 RR (sOp (.nilCheck (.const p3)) 0) c fun c d=>
 RR (sOp (.load 3 (.const c)) 3) d fun c d=>
 RR (aG .add 3 false true c (.int .i64 1)) d fun c d=>
 RR (sOp (.nilCheck (.const p3)) 0) d fun d e=>
 RR (sOp (.store 3 (.const d) (.const c)) 0) e fun _ c=>
 (∃ d:Value->World->Prop,(
 RR (sOp (.nilCheck (.const p3)) 0) c fun a b=>
 RR (sOp (.load 3 (.const a)) 3) b fun a b=>
 RR (aG .gtr 3 false true a (.int .i64 120)) b fun a b=>
 ak a false (
 RR (aG .gtr 3 false true p2 (.int .i64 30)) b fun b c=>
 RR (sOp (.pick (.const a) (.const (.bool true)) (.const b)) 4) c fun a b=>
 d a b) (
 RR (sOp (.pick (.const a) (.const (.bool true)) (.const undef)) 4) b fun a b=>
 d a b))/\
 ∀ c _ _ _ _ _ _ _:Value,∀ e:World,d c e->
 CondV c (
 RR (dn 36 []) e fun a c=>
 RR (sOp (.store 36 (.const b) (.const a)) 0) c fun _ a=>
 (bg Tryz.prog 36 b a fun b=>R (.returned (.tuple #[b,(.bool false)])) a)) (
 RR (sOp (.fieldAddr 36 (.const a) 0) 0) e fun c d=>
 RR (sOp (.load 3 (.const c)) 3) d fun c d=>
 RR (sOp (.fieldAddr 36 (.const a) 1) 0) d fun d e=>
 RR (sOp (.load 3 (.const d)) 3) e fun d e=>
 RR (sOp (.fieldAddr 36 (.const a) 2) 0) e fun e f=>
 RR (sOp (.load 9 (.const e)) 9) f fun e f=>
 RR (dn 36 [(0,c),(1,d),(2,e)]) f fun c d=>
 RR (sOp (.alloc 36) 0) d fun d e=>
 RR (sOp (.store 36 (.const d) (.const c)) 0) e fun _ c=>
 RR (sOp (.fieldAddr 36 (.const a) 3) 0) c fun a c=>
 RR (sOp (.load 34 (.const a)) 34) c fun a c=>
 RR (aM .len #[34] 3 [false] [a]) c fun c e=>
 (∃ (f:Value->World->Prop) (g:Value->World->Nat),f (.int .i64 0) e/\
 ∀ e _ _ _ _ _ _ _ _ _ _ _ _ _ _ _ _ _ _ _ _ _ _ _ _ _ _:Value,∀ h:World,f e h->
 RR (aG .lss 3 false false e c) h fun c i=>
 CondV c (
 RR (sOp (.indexAddr 34 (.const a) (.const e)) 0) i fun a c=>
 RR (sOp (.load 36 (.const a)) 36) c fun a c=>
 RR (sOp (.alloc 36) 0) c fun c i=>
 RR (sOp (.store 36 (.const c) (.const a)) 0) i fun _ a=>
 RR (sOp (.load 36 (.const c)) 36) a fun a c=>
 RR (aG .add 3 false true p2 (.int .i64 1)) c fun c i=>
 RR (aN (.func (.func 150) #[] #[]) [p0,a,c,p3]) i fun a c=>
 RR (sOp (.extract (.const a) 0) 36) c fun c i=>
 RR (sOp (.extract (.const a) 1) 4) i fun a i=>
 RR (sOp (.alloc 36) 0) i fun i j=>
 RR (sOp (.store 36 (.const i) (.const c)) 0) j fun _ c=>
 RR (sOp (.unOp .not 4 (.const a)) 4) c fun a c=>
 CondV a (
 RR (dn 36 []) c fun a c=>
 RR (sOp (.store 36 (.const b) (.const a)) 0) c fun _ a=>
 (bg Tryz.prog 36 b a fun b=>R (.returned (.tuple #[b,(.bool false)])) a)) (
 RR (sOp (.fieldAddr 36 (.const d) 3) 0) c fun a b=>
 RR (sOp (.load 34 (.const a)) 34) b fun a b=>
 RR (sOp (.load 36 (.const i)) 36) b fun b c=>
 RR (bB 34 1 [(0,b)]) c fun b c=>
 RR (aM .append #[34,34] 34 [false,false] [a,b]) c fun a b=>
 RR (sOp (.fieldAddr 36 (.const d) 3) 0) b fun b c=>
 RR (sOp (.store 34 (.const b) (.const a)) 0) c fun _ a=>
 RR (aG .add 3 false true e (.int .i64 1)) a fun a b=>
 f a b/\g a b<g e h)) (
 RR (sOp (.load 36 (.const d)) 36) i fun a c=>
 RR (sOp (.store 36 (.const b) (.const a)) 0) c fun _ a=>
 (bg Tryz.prog 36 b a fun b=>R (.returned (.tuple #[b,(.bool true)])) a)))))
theorem js {p0 p1 p2 p3:Value} {w:World} {R:Ending->World->Prop} (h:gO p0 p1 p2 p3 w R):Calls Tryz.prog 150 #[p0,p1,p2,p3] w R:=
  aQ (.seq none .leaf (.seq none .leaf (.seq none .leaf (.seq none (.seq (some [30]) .leaf .leaf) (.seq none .leaf (.seq none (.seq none .leaf (.one (.loop [42] .leaf))) .leaf)))))) [p0,p1,p2,p3] bl Tryz.func150 (by kernel_rfl) (by kernel_rfl) h


/- loop.example/prologserver/spec.l5Code : function 161 -/
def sm (p0:Value) (w:World) (R:Ending->World->Prop):Prop:=
 CondV p0 (
 R (.returned (.int .i64 0)) w) (
 R (.returned (.int .i64 1)) w)
theorem uG {p0:Value} {w:World} {R:Ending->World->Prop} (h:sm p0 w R):Calls Tryz.prog 161 #[p0] w R:=
  aQ .leaf [p0] bl Tryz.func161 (by kernel_rfl) (by kernel_rfl) h


/- loop.example/prologserver/spec.l3Unify : function 162 -/
def px (p0 p1 p2:Value) (w:World) (R:Ending->World->Prop):Prop:=
 RR (sOp (.box 36 (.const p0)) 0) w fun a b=>
 RR (sOp (.box 36 (.const p1)) 0) b fun b c=>
 RR (sOp (.load 36 (.const a)) 36) c fun c d=>
 RR (aN (.func (.func 170) #[] #[]) [c,p2]) d fun c d=>
 RR (sOp (.store 36 (.const a) (.const c)) 0) d fun _ c=>
 RR (sOp (.load 36 (.const b)) 36) c fun c d=>
 RR (aN (.func (.func 170) #[] #[]) [c,p2]) d fun c d=>
 RR (sOp (.store 36 (.const b) (.const c)) 0) d fun _ c=>
 (∃ d:Value->World->Prop,(
 RR (sOp (.fieldAddr 36 (.const a) 0) 0) c fun c e=>
 RR (sOp (.load 3 (.const c)) 3) e fun c e=>
 RR (aG .eql 3 false true c (.int .i64 1)) e fun c e=>
 ((fun a:VW=>ak c true (
 RR (sOp (.fieldAddr 36 (.const b) 0) 0) e fun b d=>
 RR (sOp (.load 3 (.const b)) 3) d fun b d=>
 RR (aG .eql 3 false true b (.int .i64 1)) d fun b d=>
 RR (sOp (.pick (.const c) (.const b) (.const (.bool false))) 4) d fun b c=>a b c) (
 RR (sOp (.pick (.const c) (.const undef) (.const (.bool false))) 4) e fun b c=>a b c)) fun c e=>
 ak c true (
 RR (sOp (.fieldAddr 36 (.const a) 1) 0) e fun a e=>
 RR (sOp (.load 3 (.const a)) 3) e fun a e=>
 RR (sOp (.fieldAddr 36 (.const b) 1) 0) e fun b e=>
 RR (sOp (.load 3 (.const b)) 3) e fun b e=>
 RR (aG .eql 3 false false a b) e fun a b=>
 RR (sOp (.pick (.const c) (.const a) (.const (.bool false))) 4) b fun a b=>
 d a b) (
 RR (sOp (.pick (.const c) (.const undef) (.const (.bool false))) 4) e fun a b=>
 d a b)))/\
 ∀ c _ _ _ _ _ _ _ _ _ _ _ _ _ _:Value,∀ e:World,d c e->
 CondV c (
 R (.returned (.bool true)) e) (
 RR (sOp (.fieldAddr 36 (.const a) 0) 0) e fun c d=>
 RR (sOp (.load 3 (.const c)) 3) d fun c d=>
 RR (aG .eql 3 false true c (.int .i64 1)) d fun c d=>
 CondV c (
 RR (sOp (.fieldAddr 36 (.const a) 1) 0) d fun c d=>
 RR (sOp (.load 3 (.const c)) 3) d fun c d=>
 RR (sOp (.load 36 (.const b)) 36) d fun d e=>
 RR (aN (.func (.func 181) #[] #[]) [c,d,p2]) e fun c d=>
 CondV c (
 R (.returned (.bool false)) d) (
 RR (sOp (.fieldAddr 36 (.const a) 1) 0) d fun a c=>
 RR (sOp (.load 3 (.const a)) 3) c fun a c=>
 RR (sOp (.load 36 (.const b)) 36) c fun b c=>
 RR (sOp (.indexAddr 34 (.const p2) (.const a)) 0) c fun a c=>
 RR (sOp (.store 36 (.const a) (.const b)) 0) c fun _ a=>
 R (.returned (.bool true)) a)) (
 RR (sOp (.fieldAddr 36 (.const b) 0) 0) d fun c d=>
 RR (sOp (.load 3 (.const c)) 3) d fun c d=>
 RR (aG .eql 3 false true c (.int .i64 1)) d fun c d=>
 CondV c (
 RR (sOp (.load 36 (.const b)) 36) d fun b c=>
 RR (sOp (.load 36 (.const a)) 36) c fun a c=>
 RR (aN (.func (.func 162) #[] #[]) [b,a,p2]) c fun a b=>
 R (.returned a) b) (
 (∃ c:Value->World->Prop,(
 RR (sOp (.fieldAddr 36 (.const a) 0) 0) d fun d e=>
 RR (sOp (.load 3 (.const d)) 3) e fun d e=>
 RR (sOp (.fieldAddr 36 (.const b) 0) 0) e fun e f=>
 RR (sOp (.load 3 (.const e)) 3) f fun e f=>
 RR (aG .neq 3 false false d e) f fun d e=>
 ((fun c:VW=>ak d false (
 RR (sOp (.fieldAddr 36 (.const a) 1) 0) e fun a e=>
 RR (sOp (.load 3 (.const a)) 3) e fun a e=>
 RR (sOp (.fieldAddr 36 (.const b) 1) 0) e fun b e=>
 RR (sOp (.load 3 (.const b)) 3) e fun b e=>
 RR (aG .neq 3 false false a b) e fun a b=>
 RR (sOp (.pick (.const d) (.const (.bool true)) (.const a)) 4) b fun a b=>c a b) (
 RR (sOp (.pick (.const d) (.const (.bool true)) (.const undef)) 4) e fun a b=>c a b)) fun d e=>
 ((fun c:VW=>ak d false (
 RR (sOp (.fieldAddr 36 (.const a) 2) 0) e fun a e=>
 RR (sOp (.load 9 (.const a)) 9) e fun a e=>
 RR (sOp (.fieldAddr 36 (.const b) 2) 0) e fun b e=>
 RR (sOp (.load 9 (.const b)) 9) e fun b e=>
 RR (aG .neq 9 false false a b) e fun a b=>
 RR (sOp (.pick (.const d) (.const (.bool true)) (.const a)) 4) b fun a b=>c a b) (
 RR (sOp (.pick (.const d) (.const (.bool true)) (.const undef)) 4) e fun a b=>c a b)) fun d e=>
 ak d false (
 RR (sOp (.fieldAddr 36 (.const a) 3) 0) e fun a e=>
 RR (sOp (.load 34 (.const a)) 34) e fun a e=>
 RR (aM .len #[34] 3 [false] [a]) e fun a e=>
 RR (sOp (.fieldAddr 36 (.const b) 3) 0) e fun b e=>
 RR (sOp (.load 34 (.const b)) 34) e fun b e=>
 RR (aM .len #[34] 3 [false] [b]) e fun b e=>
 RR (aG .neq 3 false false a b) e fun a b=>
 RR (sOp (.pick (.const d) (.const (.bool true)) (.const a)) 4) b fun a b=>
 c a b) (
 RR (sOp (.pick (.const d) (.const (.bool true)) (.const undef)) 4) e fun a b=>
 c a b))))/\
 ∀ d _ _ _ _ _ _ _ _ _ _ _ _ _ _ _ _ _ _ _ _ _ _ _ _ _ _ _:Value,∀ e:World,c d e->
 CondV d (
 R (.returned (.bool false)) e) (
 (∃ (c:Value->World->Prop) (d:Value->World->Nat),c (.int .i64 0) e/\
 ∀ e _ _ _ f g h i j k l m n o p q r _ _ _ _ _:Value,∀ s:World,c e s->
 RR (sOp (.fieldAddr 36 (.const a) 3) 0) s fun t u=>
 RR (sOp (.load 34 (.const t)) 34) u fun t u=>
 RR (aM .len #[34] 3 [false] [t]) u fun t u=>
 RR (aG .lss 3 false false e t) u fun t u=>
 CondV t (
 (∃ t:(Nat->Bool)->Value->Value->Value->Value->Value->Value->Value->Value->Value->Value->Value->Value->Value->World->Prop,t (fun _=>false) f g h i j k l m n o p q r { u with drawn:=u.drawn+1 }/\(
 (∀ b:Nat->Bool,b 0=false->∀ c d e f g h i j k l m n o p,t b c d e f g h i j k l m n o p->
 RR (sOp (.fieldAddr 36 (.const a) 3) 0) p fun a o=>
 t (aD b 0) c d e f g h i j k l m n a o)/\
 (∀ a:Nat->Bool,a 1=false->a 0=true->∀ b c d e f g h i j k l m n o,t a b c d e f g h i j k l m n o->
 RR (sOp (.load 34 (.const n)) 34) o fun m o=>
 t (aD a 1) b c d e f g h i j k l m n o)/\
 (∀ a:Nat->Bool,a 2=false->∀ b c d f g h i j k l m n o p,t a b c d f g h i j k l m n o p->
 t (aD a 2) b c d f g h i j k l e n o p)/\
 (∀ a:Nat->Bool,a 3=false->a 1=true->a 2=true->∀ b c d e f g h i j k l m n o,t a b c d e f g h i j k l m n o->
 RR (sOp (.indexAddr 34 (.const m) (.const l)) 0) o fun k o=>
 t (aD a 3) b c d e f g h i j k l m n o)/\
 (∀ a:Nat->Bool,a 4=false->a 3=true->∀ b c d e f g h i j k l m n o,t a b c d e f g h i j k l m n o->
 RR (sOp (.load 36 (.const k)) 36) o fun j o=>
 t (aD a 4) b c d e f g h i j k l m n o)/\
 (∀ a:Nat->Bool,a 5=false->∀ c d e f g h i j k l m n o p,t a c d e f g h i j k l m n o p->
 RR (sOp (.fieldAddr 36 (.const b) 3) 0) p fun b j=>
 t (aD a 5) c d e f g h i b k l m n o j)/\
 (∀ a:Nat->Bool,a 6=false->a 5=true->∀ b c d e f g h i j k l m n o,t a b c d e f g h i j k l m n o->
 RR (sOp (.load 34 (.const i)) 34) o fun h o=>
 t (aD a 6) b c d e f g h i j k l m n o)/\
 (∀ a:Nat->Bool,a 7=false->∀ b c d f g h i j k l m n o p,t a b c d f g h i j k l m n o p->
 t (aD a 7) b c d f g e i j k l m n o p)/\
 (∀ a:Nat->Bool,a 8=false->a 6=true->a 7=true->∀ b c d e f g h i j k l m n o,t a b c d e f g h i j k l m n o->
 RR (sOp (.indexAddr 34 (.const h) (.const g)) 0) o fun f o=>
 t (aD a 8) b c d e f g h i j k l m n o)/\
 (∀ a:Nat->Bool,a 9=false->a 8=true->∀ b c d e f g h i j k l m n o,t a b c d e f g h i j k l m n o->
 RR (sOp (.load 36 (.const f)) 36) o fun e o=>
 t (aD a 9) b c d e f g h i j k l m n o)/\
 (∀ a:Nat->Bool,a 10=false->∀ b c d e f g h i j k l m n o,t a b c d e f g h i j k l m n o->
 t (aD a 10) b c p2 e f g h i j k l m n o)/\
 (∀ a:Nat->Bool,a 11=false->a 4=true->a 9=true->a 10=true->∀ b c d e f g h i j k l m n o,t a b c d e f g h i j k l m n o->
 RR (aN (.func (.func 162) #[] #[]) [j,e,d]) o fun c o=>
 t (aD a 11) b c d e f g h i j k l m n o)/\
 (∀ a:Nat->Bool,a 12=false->a 11=true->∀ b c d e f g h i j k l m n o,t a b c d e f g h i j k l m n o->
 RR (sOp (.unOp .not 4 (.const c)) 4) o fun b o=>
 t (aD a 12) b c d e f g h i j k l m n o)/\
 True)/\
 ∀ a:Nat->Bool,a 12=true->a 11=true->a 10=true->a 9=true->a 8=true->a 7=true->a 6=true->a 5=true->a 4=true->a 3=true->a 2=true->a 1=true->a 0=true->∀ b f g h i j k l m n o p q r,t a b f g h i j k l m n o p q r->
 CondV b (
 R (.returned (.bool false)) r) (
 RR (aG .add 3 false true e (.int .i64 1)) r fun a b=>
 c a b/\d a b<d e s))) (
 R (.returned (.bool true)) u))))))))
theorem tT {p0 p1 p2:Value} {w:World} {R:Ending->World->Prop} (h:px p0 p1 p2 w R):Calls Tryz.prog 162 #[p0,p1,p2] w R:=
  aQ (.seq none .leaf (.seq none .leaf (.seq none .leaf (.seq none (.seq (some [28]) .leaf .leaf) (.seq none .leaf (.seq none .leaf (.seq none (.seq (some [76]) .leaf .leaf) (.seq none (.seq none .leaf (.one (.loop [7] .leaf))) .leaf)))))))) [p0,p1,p2] bl Tryz.func162 (by kernel_rfl) (by kernel_rfl) h


/- loop.example/prologserver/spec.l5Arith : function 163 -/
def pV (p0:Value) (w:World) (R:Ending->World->Prop):Prop:=
 RR (sOp (.box 36 (.const p0)) 0) w fun a b=>
 RR (sOp (.fieldAddr 36 (.const a) 0) 0) b fun b c=>
 RR (sOp (.load 3 (.const b)) 3) c fun b c=>
 RR (aG .eql 3 false true b (.int .i64 1)) c fun c d=>
 CondV c (
 R (.returned (.tuple #[(.int .i64 0),(.int .i64 2)])) d) (
 RR (aG .eql 3 false true b (.int .i64 2)) d fun b c=>
 CondV b (
 RR (sOp (.fieldAddr 36 (.const a) 1) 0) c fun a b=>
 RR (sOp (.load 3 (.const a)) 3) b fun a b=>
 R (.returned (.tuple #[a,(.int .i64 0)])) b) (
 RR (sOp (.fieldAddr 36 (.const a) 2) 0) c fun b c=>
 RR (sOp (.load 9 (.const b)) 9) c fun b c=>
 RR (aN (.func (.func 117) #[] #[]) [b]) c fun b c=>
 (∃ d:Value->World->Prop,(
 RR (sOp (.fieldAddr 36 (.const a) 3) 0) c fun a c=>
 RR (sOp (.load 34 (.const a)) 34) c fun a c=>
 RR (aM .len #[34] 3 [false] [a]) c fun a c=>
 RR (aG .neq 3 false true a (.int .i64 2)) c fun a c=>
 ak a false (
 RR (aG .neq 3 false true b (.int .i64 1)) c fun c e=>
 ak c true (
 RR (aG .neq 3 false true b (.int .i64 2)) e fun b e=>
 ak a false (
 RR (sOp (.pick (.const c) (.const b) (.const (.bool false))) 4) e fun b c=>
 RR (sOp (.pick (.const a) (.const (.bool true)) (.const b)) 4) c fun a b=>
 d a b) (
 RR (sOp (.pick (.const a) (.const (.bool true)) (.const undef)) 4) e fun a b=>
 d a b)) (
 ak a false (
 RR (sOp (.pick (.const c) (.const undef) (.const (.bool false))) 4) e fun b c=>
 RR (sOp (.pick (.const a) (.const (.bool true)) (.const b)) 4) c fun a b=>
 d a b) (
 RR (sOp (.pick (.const a) (.const (.bool true)) (.const undef)) 4) e fun a b=>
 d a b))) (
 ak undef true (
 RR (aG .neq 3 false true b (.int .i64 2)) c fun b c=>
 ak a false (
 RR (sOp (.pick (.const undef) (.const b) (.const (.bool false))) 4) c fun b c=>
 RR (sOp (.pick (.const a) (.const (.bool true)) (.const b)) 4) c fun a b=>
 d a b) (
 RR (sOp (.pick (.const a) (.const (.bool true)) (.const undef)) 4) c fun a b=>
 d a b)) (
 ak a false (
 RR (sOp (.pick (.const undef) (.const undef) (.const (.bool false))) 4) c fun b c=>
 RR (sOp (.pick (.const a) (.const (.bool true)) (.const b)) 4) c fun a b=>
 d a b) (
 RR (sOp (.pick (.const a) (.const (.bool true)) (.const undef)) 4) c fun a b=>
 d a b))))/\
 ∀ b _ _ _ _ _ _ _ _ _ _ _:Value,∀ c:World,d b c->
 CondV b (
 R (.returned (.tuple #[(.int .i64 0),(.int .i64 3)])) c) (
 RR (sOp (.fieldAddr 36 (.const a) 3) 0) c fun b c=>
 RR (sOp (.load 34 (.const b)) 34) c fun b c=>
 RR (sOp (.indexAddr 34 (.const b) (.const (.int .i64 0))) 0) c fun b c=>
 RR (sOp (.load 36 (.const b)) 36) c fun b c=>
 RR (aN (.func (.func 163) #[] #[]) [b]) c fun b c=>
 RR (sOp (.extract (.const b) 0) 3) c fun c d=>
 RR (sOp (.extract (.const b) 1) 3) d fun b d=>
 RR (aG .neq 3 false true b (.int .i64 0)) d fun d e=>
 CondV d (
 R (.returned (.tuple #[(.int .i64 0),b])) e) (
 RR (sOp (.fieldAddr 36 (.const a) 3) 0) e fun b d=>
 RR (sOp (.load 34 (.const b)) 34) d fun b d=>
 RR (sOp (.indexAddr 34 (.const b) (.const (.int .i64 1))) 0) d fun b d=>
 RR (sOp (.load 36 (.const b)) 36) d fun b d=>
 RR (aN (.func (.func 163) #[] #[]) [b]) d fun b d=>
 RR (sOp (.extract (.const b) 0) 3) d fun d e=>
 RR (sOp (.extract (.const b) 1) 3) e fun b e=>
 RR (aG .neq 3 false true b (.int .i64 0)) e fun e f=>
 CondV e (
 R (.returned (.tuple #[(.int .i64 0),b])) f) (
 RR (sOp (.fieldAddr 36 (.const a) 2) 0) f fun a b=>
 RR (sOp (.load 9 (.const a)) 9) b fun a b=>
 RR (aN (.func (.func 182) #[] #[]) [a,c,d]) b fun a b=>
 RR (sOp (.extract (.const a) 0) 3) b fun b c=>
 RR (sOp (.extract (.const a) 1) 3) c fun a c=>
 R (.returned (.tuple #[b,a])) c))))))
theorem s8 {p0:Value} {w:World} {R:Ending->World->Prop} (h:pV p0 w R):Calls Tryz.prog 163 #[p0] w R:=
  aQ (.seq none .leaf (.seq none .leaf (.seq none .leaf (.seq none (.seq (some [31]) .leaf .leaf) .leaf)))) [p0] bl Tryz.func163 (by kernel_rfl) (by kernel_rfl) h


/- loop.example/prologserver/spec.l5Arg : function 164 -/
def wn (p0:Value) (w:World) (R:Ending->World->Prop):Prop:=
 RR (sOp (.box 36 (.const p0)) 0) w fun a b=>
 RR (sOp (.alloc 36) 0) b fun b c=>
 RR (sOp (.fieldAddr 36 (.const a) 3) 0) c fun c d=>
 RR (sOp (.load 34 (.const c)) 34) d fun c d=>
 RR (sOp (.indexAddr 34 (.const c) (.const (.int .i64 0))) 0) d fun c d=>
 RR (sOp (.load 36 (.const c)) 36) d fun c d=>
 RR (sOp (.alloc 36) 0) d fun d e=>
 RR (sOp (.store 36 (.const d) (.const c)) 0) e fun _ c=>
 RR (sOp (.fieldAddr 36 (.const a) 3) 0) c fun a c=>
 RR (sOp (.load 34 (.const a)) 34) c fun a c=>
 RR (sOp (.indexAddr 34 (.const a) (.const (.int .i64 1))) 0) c fun a c=>
 RR (sOp (.load 36 (.const a)) 36) c fun a c=>
 RR (sOp (.alloc 36) 0) c fun c e=>
 RR (sOp (.store 36 (.const c) (.const a)) 0) e fun _ a=>
 (∃ e:Value->World->Prop,(
 RR (sOp (.fieldAddr 36 (.const d) 0) 0) a fun a b=>
 RR (sOp (.load 3 (.const a)) 3) b fun a b=>
 RR (aG .eql 3 false true a (.int .i64 1)) b fun a b=>
 ak a false (
 RR (sOp (.fieldAddr 36 (.const c) 0) 0) b fun b c=>
 RR (sOp (.load 3 (.const b)) 3) c fun b c=>
 RR (aG .eql 3 false true b (.int .i64 1)) c fun b c=>
 RR (sOp (.pick (.const a) (.const (.bool true)) (.const b)) 4) c fun a b=>
 e a b) (
 RR (sOp (.pick (.const a) (.const (.bool true)) (.const undef)) 4) b fun a b=>
 e a b))/\
 ∀ a _ _ _ _ _ _ _:Value,∀ f:World,e a f->
 CondV a (
 RR (dn 36 []) f fun a c=>
 RR (sOp (.store 36 (.const b) (.const a)) 0) c fun _ a=>
 (bg Tryz.prog 36 b a fun b=>R (.returned (.tuple #[b,(.int .i64 2)])) a)) (
 (∃ a:Value->World->Prop,(
 RR (sOp (.fieldAddr 36 (.const d) 0) 0) f fun b d=>
 RR (sOp (.load 3 (.const b)) 3) d fun b d=>
 RR (aG .neq 3 false true b (.int .i64 2)) d fun b d=>
 ((fun a:VW=>ak b false (
 RR (sOp (.fieldAddr 36 (.const c) 0) 0) d fun c d=>
 RR (sOp (.load 3 (.const c)) 3) d fun c d=>
 RR (aG .neq 3 false true c (.int .i64 3)) d fun c d=>
 RR (sOp (.pick (.const b) (.const (.bool true)) (.const c)) 4) d fun b c=>a b c) (
 RR (sOp (.pick (.const b) (.const (.bool true)) (.const undef)) 4) d fun b c=>a b c)) fun b d=>
 ak b false (
 RR (sOp (.fieldAddr 36 (.const c) 3) 0) d fun c d=>
 RR (sOp (.load 34 (.const c)) 34) d fun c d=>
 RR (aM .len #[34] 3 [false] [c]) d fun c d=>
 RR (aG .eql 3 false true c (.int .i64 0)) d fun c d=>
 RR (sOp (.pick (.const b) (.const (.bool true)) (.const c)) 4) d fun b c=>
 a b c) (
 RR (sOp (.pick (.const b) (.const (.bool true)) (.const undef)) 4) d fun b c=>
 a b c)))/\
 ∀ e _ _ _ _ _ _ _ _ _ _ _ _ _:Value,∀ f:World,a e f->
 CondV e (
 RR (dn 36 []) f fun a c=>
 RR (sOp (.store 36 (.const b) (.const a)) 0) c fun _ a=>
 (bg Tryz.prog 36 b a fun b=>R (.returned (.tuple #[b,(.int .i64 3)])) a)) (
 (∃ a:Value->World->Prop,(
 RR (sOp (.fieldAddr 36 (.const d) 1) 0) f fun b e=>
 RR (sOp (.load 3 (.const b)) 3) e fun b e=>
 RR (aG .lss 3 false true b (.int .i64 1)) e fun b e=>
 ak b false (
 RR (sOp (.fieldAddr 36 (.const d) 1) 0) e fun d e=>
 RR (sOp (.load 3 (.const d)) 3) e fun d e=>
 RR (sOp (.fieldAddr 36 (.const c) 3) 0) e fun c e=>
 RR (sOp (.load 34 (.const c)) 34) e fun c e=>
 RR (aM .len #[34] 3 [false] [c]) e fun c e=>
 RR (aG .gtr 3 false false d c) e fun c d=>
 RR (sOp (.pick (.const b) (.const (.bool true)) (.const c)) 4) d fun b c=>
 a b c) (
 RR (sOp (.pick (.const b) (.const (.bool true)) (.const undef)) 4) e fun b c=>
 a b c))/\
 ∀ e _ _ _ _ _ _ _ _ _ _:Value,∀ f:World,a e f->
 CondV e (
 RR (dn 36 []) f fun a c=>
 RR (sOp (.store 36 (.const b) (.const a)) 0) c fun _ a=>
 (bg Tryz.prog 36 b a fun b=>R (.returned (.tuple #[b,(.int .i64 1)])) a)) (
 RR (sOp (.fieldAddr 36 (.const c) 3) 0) f fun a c=>
 RR (sOp (.load 34 (.const a)) 34) c fun a c=>
 RR (sOp (.fieldAddr 36 (.const d) 1) 0) c fun c d=>
 RR (sOp (.load 3 (.const c)) 3) d fun c d=>
 RR (aG .sub 3 false true c (.int .i64 1)) d fun c d=>
 RR (sOp (.indexAddr 34 (.const a) (.const c)) 0) d fun a c=>
 RR (sOp (.load 36 (.const a)) 36) c fun a c=>
 RR (sOp (.store 36 (.const b) (.const a)) 0) c fun _ a=>
 (bg Tryz.prog 36 b a fun b=>R (.returned (.tuple #[b,(.int .i64 0)])) a)))))))
theorem wz {p0:Value} {w:World} {R:Ending->World->Prop} (h:wn p0 w R):Calls Tryz.prog 164 #[p0] w R:=
  aQ (.seq none .leaf (.seq none .leaf (.seq none .leaf (.seq none (.seq (some [21]) .leaf .leaf) (.seq none (.seq (some [36]) .leaf .leaf) (.seq none (.seq (some [48]) .leaf .leaf) .leaf)))))) [p0] bl Tryz.func164 (by kernel_rfl) (by kernel_rfl) h


/- loop.example/prologserver/spec.l5Compares : function 165 -/
def kZ (p0:Value) (w:World) (R:Ending->World->Prop):Prop:=
 RR (aG .eql 9 false true p0 (.string ⟨#[60]⟩)) w fun a b=>
 ((fun c:VW=>ak a false (
 RR (aG .eql 9 false true p0 (.string ⟨#[62]⟩)) b fun b d=>
 RR (sOp (.pick (.const a) (.const (.bool true)) (.const b)) 4) d fun a b=>c a b) (
 RR (sOp (.pick (.const a) (.const (.bool true)) (.const undef)) 4) b fun a b=>c a b)) fun a b=>
 ((fun c:VW=>ak a false (
 RR (aG .eql 9 false true p0 (.string ⟨#[61,60]⟩)) b fun b d=>
 RR (sOp (.pick (.const a) (.const (.bool true)) (.const b)) 4) d fun a b=>c a b) (
 RR (sOp (.pick (.const a) (.const (.bool true)) (.const undef)) 4) b fun a b=>c a b)) fun a b=>
 ((fun c:VW=>ak a false (
 RR (aG .eql 9 false true p0 (.string ⟨#[62,61]⟩)) b fun b d=>
 RR (sOp (.pick (.const a) (.const (.bool true)) (.const b)) 4) d fun a b=>c a b) (
 RR (sOp (.pick (.const a) (.const (.bool true)) (.const undef)) 4) b fun a b=>c a b)) fun a b=>
 ak a false (
 RR (aG .eql 9 false true p0 (.string ⟨#[61,58,61]⟩)) b fun b c=>
 RR (sOp (.pick (.const a) (.const (.bool true)) (.const b)) 4) c fun a b=>
 R (.returned a) b) (
 RR (sOp (.pick (.const a) (.const (.bool true)) (.const undef)) 4) b fun a b=>
 R (.returned a) b))))
theorem ot {p0:Value} {w:World} {R:Ending->World->Prop} (h:kZ p0 w R):Calls Tryz.prog 165 #[p0] w R:=
  aQ .leaf [p0] bl Tryz.func165 (by kernel_rfl) (by kernel_rfl) h


/- loop.example/prologserver/spec.l5Compare : function 166 -/
def mo (p0:Value) (w:World) (R:Ending->World->Prop):Prop:=
 RR (sOp (.box 36 (.const p0)) 0) w fun a b=>
 RR (sOp (.fieldAddr 36 (.const a) 3) 0) b fun b c=>
 RR (sOp (.load 34 (.const b)) 34) c fun b c=>
 RR (sOp (.indexAddr 34 (.const b) (.const (.int .i64 0))) 0) c fun b c=>
 RR (sOp (.load 36 (.const b)) 36) c fun b c=>
 RR (aN (.func (.func 163) #[] #[]) [b]) c fun b c=>
 RR (sOp (.extract (.const b) 0) 3) c fun c d=>
 RR (sOp (.extract (.const b) 1) 3) d fun b d=>
 RR (aG .neq 3 false true b (.int .i64 0)) d fun d e=>
 CondV d (
 R (.returned b) e) (
 RR (sOp (.fieldAddr 36 (.const a) 3) 0) e fun b d=>
 RR (sOp (.load 34 (.const b)) 34) d fun b d=>
 RR (sOp (.indexAddr 34 (.const b) (.const (.int .i64 1))) 0) d fun b d=>
 RR (sOp (.load 36 (.const b)) 36) d fun b d=>
 RR (aN (.func (.func 163) #[] #[]) [b]) d fun b d=>
 RR (sOp (.extract (.const b) 0) 3) d fun d e=>
 RR (sOp (.extract (.const b) 1) 3) e fun b e=>
 RR (aG .neq 3 false true b (.int .i64 0)) e fun e f=>
 CondV e (
 R (.returned b) f) (
 RR (sOp (.fieldAddr 36 (.const a) 2) 0) f fun a b=>
 RR (sOp (.load 9 (.const a)) 9) b fun a b=>
 RR (aN (.func (.func 183) #[] #[]) [a,c,d]) b fun a b=>
 RR (aN (.func (.func 161) #[] #[]) [a]) b fun a b=>
 R (.returned a) b))
theorem qe {p0:Value} {w:World} {R:Ending->World->Prop} (h:mo p0 w R):Calls Tryz.prog 166 #[p0] w R:=
  aQ .leaf [p0] bl Tryz.func166 (by kernel_rfl) (by kernel_rfl) h


/- loop.example/prologserver/spec.l5Test : function 167 -/
def sE (p0:Value) (w:World) (R:Ending->World->Prop):Prop:=
 RR (sOp (.box 36 (.const p0)) 0) w fun a b=>
 RR (sOp (.fieldAddr 36 (.const a) 3) 0) b fun b c=>
 RR (sOp (.load 34 (.const b)) 34) c fun b c=>
 RR (sOp (.indexAddr 34 (.const b) (.const (.int .i64 0))) 0) c fun b c=>
 RR (sOp (.load 36 (.const b)) 36) c fun b c=>
 RR (sOp (.alloc 36) 0) c fun c d=>
 RR (sOp (.store 36 (.const c) (.const b)) 0) d fun _ b=>
 RR (sOp (.fieldAddr 36 (.const a) 2) 0) b fun a b=>
 RR (sOp (.load 9 (.const a)) 9) b fun a b=>
 RR (aG .eql 9 false true a (.string ⟨#[118,97,114]⟩)) b fun b d=>
 CondV b (
 RR (sOp (.fieldAddr 36 (.const c) 0) 0) d fun a b=>
 RR (sOp (.load 3 (.const a)) 3) b fun a b=>
 RR (aG .eql 3 false true a (.int .i64 1)) b fun a b=>
 RR (aN (.func (.func 161) #[] #[]) [a]) b fun a b=>
 R (.returned a) b) (
 RR (aG .eql 9 false true a (.string ⟨#[110,111,110,118,97,114]⟩)) d fun b d=>
 CondV b (
 RR (sOp (.fieldAddr 36 (.const c) 0) 0) d fun a b=>
 RR (sOp (.load 3 (.const a)) 3) b fun a b=>
 RR (aG .neq 3 false true a (.int .i64 1)) b fun a b=>
 RR (aN (.func (.func 161) #[] #[]) [a]) b fun a b=>
 R (.returned a) b) (
 RR (aG .eql 9 false true a (.string ⟨#[105,110,116]⟩)) d fun a b=>
 CondV a (
 RR (sOp (.fieldAddr 36 (.const c) 0) 0) b fun a b=>
 RR (sOp (.load 3 (.const a)) 3) b fun a b=>
 RR (aG .eql 3 false true a (.int .i64 2)) b fun a b=>
 RR (aN (.func (.func 161) #[] #[]) [a]) b fun a b=>
 R (.returned a) b) (
 RR (sOp (.fieldAddr 36 (.const c) 0) 0) b fun a b=>
 RR (sOp (.load 3 (.const a)) 3) b fun a b=>
 RR (aG .eql 3 false true a (.int .i64 3)) b fun a b=>
 ak a true (
 RR (sOp (.fieldAddr 36 (.const c) 3) 0) b fun b c=>
 RR (sOp (.load 34 (.const b)) 34) c fun b c=>
 RR (aM .len #[34] 3 [false] [b]) c fun b c=>
 RR (aG .eql 3 false true b (.int .i64 0)) c fun b c=>
 RR (sOp (.pick (.const a) (.const b) (.const (.bool false))) 4) c fun a b=>
 RR (aN (.func (.func 161) #[] #[]) [a]) b fun a b=>
 R (.returned a) b) (
 RR (sOp (.pick (.const a) (.const undef) (.const (.bool false))) 4) b fun a b=>
 RR (aN (.func (.func 161) #[] #[]) [a]) b fun a b=>
 R (.returned a) b))))
theorem vk {p0:Value} {w:World} {R:Ending->World->Prop} (h:sE p0 w R):Calls Tryz.prog 167 #[p0] w R:=
  aQ .leaf [p0] bl Tryz.func167 (by kernel_rfl) (by kernel_rfl) h


/- loop.example/prologserver/impl.symbols : function 168 -/
def oR (w:World) (R:Ending->World->Prop):Prop:=
 RR (bB 120 15 [(0,(.string ⟨#[43]⟩)),(1,(.string ⟨#[45]⟩)),(2,(.string ⟨#[42]⟩)),(3,(.string ⟨#[47,47]⟩)),(4,(.string ⟨#[61]⟩)),(5,(.string ⟨#[92,61]⟩)),(6,(.string ⟨#[61,61]⟩)),(7,(.string ⟨#[60]⟩)),(8,(.string ⟨#[62]⟩)),(9,(.string ⟨#[61,60]⟩)),(10,(.string ⟨#[62,61]⟩)),(11,(.string ⟨#[61,58,61]⟩)),(12,(.string ⟨#[46]⟩)),(13,(.string ⟨#[91,93]⟩)),(14,(.string ⟨#[33]⟩))]) w fun a b=>
 R (.returned a) b
theorem tA {w:World} {R:Ending->World->Prop} (h:oR w R):Calls Tryz.prog 168 #[] w R:=
  aQ .leaf [] bl Tryz.func168 (by kernel_rfl) (by kernel_rfl) h


/- loop.example/prologserver/spec.NameValid : function 169 -/
def l7 (p0:Value) (w:World) (R:Ending->World->Prop):Prop:=
 RR (aN (.func (.func 116) #[] #[]) [p0]) w fun a b=>
 ak a false (
 RR (aN (.func (.func 185) #[] #[]) []) b fun b c=>
 RR (aN (.func (.func 184) #[] #[]) [b,p0]) c fun b c=>
 RR (sOp (.pick (.const a) (.const (.bool true)) (.const b)) 4) c fun a b=>
 R (.returned a) b) (
 RR (sOp (.pick (.const a) (.const (.bool true)) (.const undef)) 4) b fun a b=>
 R (.returned a) b)
theorem oO {p0:Value} {w:World} {R:Ending->World->Prop} (h:l7 p0 w R):Calls Tryz.prog 169 #[p0] w R:=
  aQ .leaf [p0] bl Tryz.func169 (by kernel_rfl) (by kernel_rfl) h


/- loop.example/prologserver/spec.l3Walk : function 170 -/
def sO (p0 p1:Value) (w:World) (R:Ending->World->Prop):Prop:=
 RR (sOp (.box 36 (.const p0)) 0) w fun a b=>
 RR (sOp (.alloc 36) 0) b fun b c=>
 (∃ (d:World->Prop) (e:World->Nat),d c/\
 ∀ _ _ _ _ _ _ _ _ _ _ _ _ _ _ _ _ _ _ _ _ _ _ _ _:Value,∀ c:World,d c->
 (∃ f:Value->World->Prop,(
 RR (sOp (.fieldAddr 36 (.const a) 0) 0) c fun b c=>
 RR (sOp (.load 3 (.const b)) 3) c fun b c=>
 RR (aG .eql 3 false true b (.int .i64 1)) c fun b c=>
 ((fun d:VW=>ak b true (
 RR (sOp (.fieldAddr 36 (.const a) 1) 0) c fun a c=>
 RR (sOp (.load 3 (.const a)) 3) c fun a c=>
 RR (aM .len #[34] 3 [false] [p1]) c fun c e=>
 RR (aG .lss 3 false false a c) e fun a c=>
 RR (sOp (.pick (.const b) (.const a) (.const (.bool false))) 4) c fun a b=>d a b) (
 RR (sOp (.pick (.const b) (.const undef) (.const (.bool false))) 4) c fun a b=>d a b)) fun b c=>
 ak b true (
 RR (sOp (.fieldAddr 36 (.const a) 1) 0) c fun a c=>
 RR (sOp (.load 3 (.const a)) 3) c fun a c=>
 RR (sOp (.indexAddr 34 (.const p1) (.const a)) 0) c fun a c=>
 RR (sOp (.fieldAddr 36 (.const a) 0) 0) c fun a c=>
 RR (sOp (.load 3 (.const a)) 3) c fun a c=>
 RR (aG .neq 3 false true a (.int .i64 0)) c fun a c=>
 RR (sOp (.pick (.const b) (.const a) (.const (.bool false))) 4) c fun a b=>
 f a b) (
 RR (sOp (.pick (.const b) (.const undef) (.const (.bool false))) 4) c fun a b=>
 f a b)))/\
 ∀ g _ _ _ _ _ _ _ _ _ _ _ _ _ _ _ _ _ _:Value,∀ h:World,f g h->
 CondV g (
 RR (sOp (.fieldAddr 36 (.const a) 1) 0) h fun b f=>
 RR (sOp (.load 3 (.const b)) 3) f fun b f=>
 RR (sOp (.indexAddr 34 (.const p1) (.const b)) 0) f fun b f=>
 RR (sOp (.load 36 (.const b)) 36) f fun b f=>
 RR (sOp (.store 36 (.const a) (.const b)) 0) f fun _ a=>
 d a/\e a<e c) (
 RR (sOp (.load 36 (.const a)) 36) h fun a c=>
 RR (sOp (.store 36 (.const b) (.const a)) 0) c fun _ a=>
 (bg Tryz.prog 36 b a fun b=>R (.returned b) a))))
theorem vE {p0 p1:Value} {w:World} {R:Ending->World->Prop} (h:sO p0 p1 w R):Calls Tryz.prog 170 #[p0,p1] w R:=
  aQ (.seq none .leaf (.seq none (.one (.loop [] (.seq none (.seq (some [23]) .leaf .leaf) .leaf))) .leaf)) [p0,p1] bl Tryz.func170 (by kernel_rfl) (by kernel_rfl) h


/- slices.Index[[]string,string] : function 171 -/
def iY (p0 p1:Value) (w:World) (R:Ending->World->Prop):Prop:=
 RR (aM .len #[120] 3 [false] [p0]) w fun a b=>
 (∃ (c:Value->World->Prop) (d:Value->World->Nat),c (.int .i64 0) b/\
 ∀ b _ _ _ _ _ _ _ _ _ _ _ _:Value,∀ e:World,c b e->
 RR (aG .lss 3 false false b a) e fun a f=>
 CondV a (
 RR (sOp (.indexAddr 120 (.const p0) (.const b)) 0) f fun a f=>
 RR (sOp (.load 9 (.const a)) 9) f fun a f=>
 RR (aG .eql 9 false false p1 a) f fun a f=>
 CondV a (
 R (.returned b) f) (
 RR (aG .add 3 false true b (.int .i64 1)) f fun a f=>
 c a f/\d a f<d b e)) (
 R (.returned (.int .i64 (-1))) f))
theorem lL {p0 p1:Value} {w:World} {R:Ending->World->Prop} (h:iY p0 p1 w R):Calls Tryz.prog 171 #[p0,p1] w R:=
  aQ (.seq none .leaf (.seq none (.seq none .leaf (.one (.loop [8] .leaf))) .leaf)) [p0,p1] bl Tryz.func171 (by kernel_rfl) (by kernel_rfl) h


/- (*loop.example/prologserver/impl.store).occurs : function 172 -/
def iW (p0 p1 p2 p3:Value) (w:World) (R:Ending->World->Prop):Prop:=
 RR (sOp (.box 113 (.const p0)) 0) w fun a b=>
 RR (sOp (.box 3 (.const p1)) 0) b fun b c=>
 RR (sOp (.box 36 (.const p2)) 0) c fun c d=>
 RR (sOp (.box 207 (.const p3)) 0) d fun d e=>
 RR (sOp (.fieldAddr 36 (.const c) 0) 0) e fun e f=>
 RR (sOp (.load 3 (.const e)) 3) f fun e f=>
 RR (aG .eql 3 false true e (.int .i64 1)) f fun e f=>
 CondV e (
 RR (sOp (.load 207 (.const d)) 207) f fun e f=>
 RR (sOp (.fieldAddr 36 (.const c) 1) 0) f fun f g=>
 RR (sOp (.load 3 (.const f)) 3) g fun f g=>
 RR (sOp (.lookup 207 (.const e) (.const f) false) 4) g fun e f=>
 CondV e (
 R (.returned (.bool false)) f) (
 RR (sOp (.load 207 (.const d)) 207) f fun e f=>
 RR (sOp (.fieldAddr 36 (.const c) 1) 0) f fun f g=>
 RR (sOp (.load 3 (.const f)) 3) g fun f g=>
 RR (sOp (.mapUpdate 207 (.const e) (.const f) (.const (.bool true))) 0) g fun _ e=>
 RR (sOp (.load 113 (.const a)) 113) e fun e f=>
 RR (sOp (.load 36 (.const c)) 36) f fun c f=>
 RR (aN (.func (.func 148) #[] #[]) [e,c]) f fun c e=>
 RR (sOp (.alloc 36) 0) e fun e f=>
 RR (sOp (.store 36 (.const e) (.const c)) 0) f fun _ c=>
 RR (sOp (.fieldAddr 36 (.const e) 0) 0) c fun c f=>
 RR (sOp (.load 3 (.const c)) 3) f fun c f=>
 RR (aG .eql 3 false true c (.int .i64 1)) f fun c f=>
 CondV c (
 RR (sOp (.fieldAddr 36 (.const e) 1) 0) f fun a c=>
 RR (sOp (.load 3 (.const a)) 3) c fun a c=>
 RR (sOp (.load 3 (.const b)) 3) c fun b c=>
 RR (aG .eql 3 false false a b) c fun a b=>
 R (.returned a) b) (
 RR (sOp (.load 113 (.const a)) 113) f fun a c=>
 RR (sOp (.load 3 (.const b)) 3) c fun b c=>
 RR (sOp (.load 36 (.const e)) 36) c fun c e=>
 RR (sOp (.load 207 (.const d)) 207) e fun d e=>
 RR (aN (.func (.func 172) #[] #[]) [a,b,c,d]) e fun a b=>
 R (.returned a) b))) (
 RR (sOp (.fieldAddr 36 (.const c) 3) 0) f fun c e=>
 RR (sOp (.load 34 (.const c)) 34) e fun c e=>
 RR (gx (.func 186) [] [a,b,d]) e fun a b=>
 RR (aN (.func (.func 111) #[] #[]) [c,a]) b fun a b=>
 R (.returned a) b)
theorem my {p0 p1 p2 p3:Value} {w:World} {R:Ending->World->Prop} (h:iW p0 p1 p2 p3 w R):Calls Tryz.prog 172 #[p0,p1,p2,p3] w R:=
  aQ .leaf [p0,p1,p2,p3] bl Tryz.func172 (by kernel_rfl) (by kernel_rfl) h


/- loop.example/prologserver/spec.l3Within : function 181 -/
def nE (p0 p1 p2:Value) (w:World) (R:Ending->World->Prop):Prop:=
 RR (sOp (.box 36 (.const p1)) 0) w fun a b=>
 RR (sOp (.load 36 (.const a)) 36) b fun a b=>
 RR (aN (.func (.func 140) #[] #[]) [(Value.slice none 0 0),a]) b fun a b=>
 (∃ (c:Value->Value->World->Prop) (d:Value->Value->World->Nat),c (.int .i64 0) a b/\
 ∀ a _ _ b _ _ _ _ _ _ _ _ _ _ _ _ _ _ _ _ _ _ _ _ _ _ _ _ _ _ _ _ _ _ _ _ _ _ _ _ _ _:Value,∀ e:World,c a b e->
 RR (aM .len #[49] 3 [false] [b]) e fun f g=>
 RR (aG .lss 3 false false a f) g fun f g=>
 CondV f (
 (∃ f:Value->World->Prop,(
 RR (sOp (.indexAddr 49 (.const b) (.const a)) 0) g fun c d=>
 RR (sOp (.load 3 (.const c)) 3) d fun c d=>
 RR (aG .eql 3 false false c p0) d fun c d=>
 CondV c (
 R (.returned (.bool true)) d) (
 (∃ c:Value->World->Prop,(
 RR (sOp (.indexAddr 49 (.const b) (.const a)) 0) d fun d e=>
 RR (sOp (.load 3 (.const d)) 3) e fun d e=>
 RR (aM .len #[34] 3 [false] [p2]) e fun e f=>
 RR (aG .lss 3 false false d e) f fun d e=>
 ak d true (
 RR (sOp (.indexAddr 49 (.const b) (.const a)) 0) e fun a b=>
 RR (sOp (.load 3 (.const a)) 3) b fun a b=>
 RR (sOp (.indexAddr 34 (.const p2) (.const a)) 0) b fun a b=>
 RR (sOp (.fieldAddr 36 (.const a) 0) 0) b fun a b=>
 RR (sOp (.load 3 (.const a)) 3) b fun a b=>
 RR (aG .neq 3 false true a (.int .i64 0)) b fun a b=>
 RR (sOp (.pick (.const d) (.const a) (.const (.bool false))) 4) b fun a b=>
 c a b) (
 RR (sOp (.pick (.const d) (.const undef) (.const (.bool false))) 4) e fun a b=>
 c a b))/\
 ∀ d _ _ _ _ _ _ _ _ _ _ _ _ _ _ _ _ _:Value,∀ e:World,c d e->
 CondV d (
 RR (sOp (.indexAddr 49 (.const b) (.const a)) 0) e fun a c=>
 RR (sOp (.load 3 (.const a)) 3) c fun a c=>
 RR (sOp (.indexAddr 34 (.const p2) (.const a)) 0) c fun a c=>
 RR (sOp (.load 36 (.const a)) 36) c fun a c=>
 RR (aN (.func (.func 140) #[] #[]) [b,a]) c fun a b=>
 f a b) (
 f b e))))/\
 ∀ g _ _ _ _ _ _ _ _ _ _ _ _ _ _ _ _ _ _ _ _ _ _ _ _ _ _ _ _ _ _ _ _ _ _:Value,∀ h:World,f g h->
 RR (aG .add 3 false true a (.int .i64 1)) h fun f h=>
 c f g h/\d f g h<d a b e)) (
 R (.returned (.bool false)) g))
theorem rb {p0 p1 p2:Value} {w:World} {R:Ending->World->Prop} (h:nE p0 p1 p2 w R):Calls Tryz.prog 181 #[p0,p1,p2] w R:=
  aQ (.seq none .leaf (.seq none .leaf (.seq none (.seq none .leaf (.one (.loop [8,7] (.seq none .leaf (.seq (some [7]) (.one (.seq none .leaf (.seq (some [40]) .leaf .leaf))) .leaf))))) .leaf))) [p0,p1,p2] bl Tryz.func181 (by kernel_rfl) (by kernel_rfl) h


/- loop.example/prologserver/spec.l5Op : function 182 -/
def yb (p0 p1 p2:Value) (w:World) (R:Ending->World->Prop):Prop:=
 RR (aG .eql 9 false true p0 (.string ⟨#[43]⟩)) w fun a b=>
 CondV a (
 RR (aG .add 3 false false p1 p2) b fun a b=>
 RR (aN (.func (.func 192) #[] #[]) [a]) b fun a b=>
 RR (sOp (.extract (.const a) 0) 3) b fun b c=>
 RR (sOp (.extract (.const a) 1) 3) c fun a c=>
 R (.returned (.tuple #[b,a])) c) (
 RR (aG .eql 9 false true p0 (.string ⟨#[45]⟩)) b fun a b=>
 CondV a (
 RR (aG .sub 3 false false p1 p2) b fun a b=>
 RR (aN (.func (.func 192) #[] #[]) [a]) b fun a b=>
 RR (sOp (.extract (.const a) 0) 3) b fun b c=>
 RR (sOp (.extract (.const a) 1) 3) c fun a c=>
 R (.returned (.tuple #[b,a])) c) (
 RR (aG .eql 9 false true p0 (.string ⟨#[42]⟩)) b fun a b=>
 CondV a (
 RR (aG .mul 3 false false p1 p2) b fun a b=>
 RR (aN (.func (.func 192) #[] #[]) [a]) b fun a b=>
 RR (sOp (.extract (.const a) 0) 3) b fun b c=>
 RR (sOp (.extract (.const a) 1) 3) c fun a c=>
 R (.returned (.tuple #[b,a])) c) (
 RR (aG .eql 3 false true p2 (.int .i64 0)) b fun a b=>
 CondV a (
 R (.returned (.tuple #[(.int .i64 0),(.int .i64 4)])) b) (
 RR (aG .eql 9 false true p0 (.string ⟨#[109,111,100]⟩)) b fun a b=>
 CondV a (
 RR (aN (.func (.func 193) #[] #[]) [p1,p2]) b fun a b=>
 R (.returned (.tuple #[a,(.int .i64 0)])) b) (
 RR (aN (.func (.func 194) #[] #[]) [p1,p2]) b fun a b=>
 R (.returned (.tuple #[a,(.int .i64 0)])) b)))))
theorem yK {p0 p1 p2:Value} {w:World} {R:Ending->World->Prop} (h:yb p0 p1 p2 w R):Calls Tryz.prog 182 #[p0,p1,p2] w R:=
  aQ .leaf [p0,p1,p2] bl Tryz.func182 (by kernel_rfl) (by kernel_rfl) h


/- loop.example/prologserver/spec.l5Holds : function 183 -/
def pv (p0 p1 p2:Value) (w:World) (R:Ending->World->Prop):Prop:=
 RR (aG .eql 9 false true p0 (.string ⟨#[60]⟩)) w fun a b=>
 CondV a (
 RR (aG .lss 3 false false p1 p2) b fun a b=>
 R (.returned a) b) (
 RR (aG .eql 9 false true p0 (.string ⟨#[62]⟩)) b fun a b=>
 CondV a (
 RR (aG .gtr 3 false false p1 p2) b fun a b=>
 R (.returned a) b) (
 RR (aG .eql 9 false true p0 (.string ⟨#[61,60]⟩)) b fun a b=>
 CondV a (
 RR (aG .leq 3 false false p1 p2) b fun a b=>
 R (.returned a) b) (
 RR (aG .eql 9 false true p0 (.string ⟨#[62,61]⟩)) b fun a b=>
 CondV a (
 RR (aG .geq 3 false false p1 p2) b fun a b=>
 R (.returned a) b) (
 RR (aG .eql 3 false false p1 p2) b fun a b=>
 R (.returned a) b))))
theorem tB {p0 p1 p2:Value} {w:World} {R:Ending->World->Prop} (h:pv p0 p1 p2 w R):Calls Tryz.prog 183 #[p0,p1,p2] w R:=
  aQ .leaf [p0,p1,p2] bl Tryz.func183 (by kernel_rfl) (by kernel_rfl) h


/- loop.example/prologserver/spec.l1Has : function 184 -/
def uq (p0 p1:Value) (w:World) (R:Ending->World->Prop):Prop:=
 (∃ (a:Value->World->Prop) (b:Value->World->Nat),a (.int .i64 0) w/\
 ∀ c _ _ _ _ _ _ _ _ _ _ _ _ _:Value,∀ d:World,a c d->
 RR (aM .len #[120] 3 [false] [p0]) d fun e f=>
 RR (aG .lss 3 false false c e) f fun e f=>
 CondV e (
 RR (sOp (.indexAddr 120 (.const p0) (.const c)) 0) f fun e f=>
 RR (sOp (.load 9 (.const e)) 9) f fun e f=>
 RR (aG .eql 9 false false e p1) f fun e f=>
 CondV e (
 R (.returned (.bool true)) f) (
 RR (aG .add 3 false true c (.int .i64 1)) f fun e f=>
 a e f/\b e f<b c d)) (
 R (.returned (.bool false)) f))
theorem xf {p0 p1:Value} {w:World} {R:Ending->World->Prop} (h:uq p0 p1 w R):Calls Tryz.prog 184 #[p0,p1] w R:=
  aQ (.seq none .leaf (.seq none (.seq none .leaf (.one (.loop [5] .leaf))) .leaf)) [p0,p1] bl Tryz.func184 (by kernel_rfl) (by kernel_rfl) h


/- loop.example/prologserver/spec.l1Signs : function 185 -/
def pP (w:World) (R:Ending->World->Prop):Prop:=
 RR (bB 120 15 [(0,(.string ⟨#[43]⟩)),(1,(.string ⟨#[45]⟩)),(2,(.string ⟨#[42]⟩)),(3,(.string ⟨#[47,47]⟩)),(4,(.string ⟨#[61]⟩)),(5,(.string ⟨#[92,61]⟩)),(6,(.string ⟨#[61,61]⟩)),(7,(.string ⟨#[60]⟩)),(8,(.string ⟨#[62]⟩)),(9,(.string ⟨#[61,60]⟩)),(10,(.string ⟨#[62,61]⟩)),(11,(.string ⟨#[61,58,61]⟩)),(12,(.string ⟨#[46]⟩)),(13,(.string ⟨#[91,93]⟩)),(14,(.string ⟨#[33]⟩))]) w fun a b=>
 R (.returned a) b
theorem tP {w:World} {R:Ending->World->Prop} (h:pP w R):Calls Tryz.prog 185 #[] w R:=
  aQ .leaf [] bl Tryz.func185 (by kernel_rfl) (by kernel_rfl) h


/- (*loop.example/prologserver/impl.store).occurs$1 : function 186 -/
def g0 (p0 p1 p2 p3:Value) (w:World) (R:Ending->World->Prop):Prop:=
 RR (sOp (.box 36 (.const p0)) 0) w fun a b=>
 RR (sOp (.load 113 (.const p1)) 113) b fun b c=>
 RR (sOp (.load 3 (.const p2)) 3) c fun c d=>
 RR (sOp (.load 36 (.const a)) 36) d fun a d=>
 RR (sOp (.load 207 (.const p3)) 207) d fun d e=>
 RR (aN (.func (.func 172) #[] #[]) [b,c,a,d]) e fun a b=>
 R (.returned a) b
theorem ku {p0 p1 p2 p3:Value} {w:World} {R:Ending->World->Prop} (h:g0 p0 p1 p2 p3 w R):Calls Tryz.prog 186 #[p0,p1,p2,p3] w R:=
  aQ .leaf [p0,p1,p2,p3] bl Tryz.func186 (by kernel_rfl) (by kernel_rfl) h


/- loop.example/prologserver/spec.l5Ranged : function 192 -/
def nJ (p0:Value) (w:World) (R:Ending->World->Prop):Prop:=
 (∃ a:Value->World->Prop,(
 RR (aG .lss 3 false true p0 (.int .i64 (-999))) w fun b c=>
 ak b false (
 RR (aG .gtr 3 false true p0 (.int .i64 999)) c fun c d=>
 RR (sOp (.pick (.const b) (.const (.bool true)) (.const c)) 4) d fun b c=>
 a b c) (
 RR (sOp (.pick (.const b) (.const (.bool true)) (.const undef)) 4) c fun b c=>
 a b c))/\
 ∀ b _ _ _ _ _:Value,∀ c:World,a b c->
 CondV b (
 R (.returned (.tuple #[(.int .i64 0),(.int .i64 5)])) c) (
 R (.returned (.tuple #[p0,(.int .i64 0)])) c))
theorem rP {p0:Value} {w:World} {R:Ending->World->Prop} (h:nJ p0 w R):Calls Tryz.prog 192 #[p0] w R:=
  aQ (.seq none .leaf (.seq none (.seq (some [9]) .leaf .leaf) .leaf)) [p0] bl Tryz.func192 (by kernel_rfl) (by kernel_rfl) h


/- loop.example/prologserver/spec.l5Mod : function 193 -/
def ve (p0 p1:Value) (w:World) (R:Ending->World->Prop):Prop:=
 RR (aG .rem 3 false false p0 p1) w fun a b=>
 (∃ c:Value->World->Prop,(
 (∃ d:Value->World->Prop,(
 RR (aG .neq 3 false true a (.int .i64 0)) b fun b c=>
 ak b true (
 RR (aG .lss 3 false true a (.int .i64 0)) c fun a c=>
 RR (aG .lss 3 false true p1 (.int .i64 0)) c fun c e=>
 RR (aG .neq 4 false false a c) e fun a c=>
 RR (sOp (.pick (.const b) (.const a) (.const (.bool false))) 4) c fun a b=>
 d a b) (
 RR (sOp (.pick (.const b) (.const undef) (.const (.bool false))) 4) c fun a b=>
 d a b))/\
 ∀ b _ _ _ _ _ _ _ _:Value,∀ e:World,d b e->
 CondV b (
 RR (aG .add 3 false false a p1) e fun a b=>
 c a b) (
 c a e)))/\
 ∀ a _ _ _ _ _ _ _ _ _ _ _ _:Value,∀ b:World,c a b->
 R (.returned a) b)
theorem xI {p0 p1:Value} {w:World} {R:Ending->World->Prop} (h:ve p0 p1 w R):Calls Tryz.prog 193 #[p0,p1] w R:=
  aQ (.seq none .leaf (.seq none .leaf (.seq (some [5]) (.seq (some [17]) .leaf .leaf) .leaf))) [p0,p1] bl Tryz.func193 (by kernel_rfl) (by kernel_rfl) h


/- loop.example/prologserver/spec.l5Div : function 194 -/
def vl (p0 p1:Value) (w:World) (R:Ending->World->Prop):Prop:=
 RR (aG .quo 3 false false p0 p1) w fun a b=>
 R (.returned a) b
theorem xL {p0 p1:Value} {w:World} {R:Ending->World->Prop} (h:vl p0 p1 w R):Calls Tryz.prog 194 #[p0,p1] w R:=
  aQ .leaf [p0,p1] bl Tryz.func194 (by kernel_rfl) (by kernel_rfl) h

end Go.Proofs.YtfcbhfjomgopbaaGreat
