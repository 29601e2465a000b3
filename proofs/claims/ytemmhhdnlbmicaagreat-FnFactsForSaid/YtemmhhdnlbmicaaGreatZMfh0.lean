/- Made by program: the functions in a shallow form; each form gives Calls. -/
import Derived.Test.YtemmhhdnlbmicaaGreatZMfS
import Derived.Test.YtemmhhdnlbmicaaGreatProg
import Derived.KernelRfl
set_option maxRecDepth 100000
namespace Go.Proofs.YtemmhhdnlbmicaaGreat
open Go
theorem bh:Tryz.prog.follows .mixedOrders=true:=by kernel_rfl
abbrev RR:=Run Tryz.prog
abbrev VW:=Value->World->Prop
/- loop.example/prologserver/laws.FnFactsFor : function 3 -/
def j8 (p0:Value) (w:World) (R:Ending->World->Prop):Prop:=
 RR (aq .len #[22] 3 [false] [p0]) w fun a b=>
 RR (ao .gtr 3 false true a (.int .i64 1048576)) b fun a b=>
 CondV a (
 R (.returned (.bool true)) b) (
 RR (aH (.func (.func 9) #[] #[]) [p0]) b fun a b=>
 RR (sOp (.extract (.const a) 0) 23) b fun b c=>
 RR (sOp (.extract (.const a) 1) 25) c fun a c=>
 RR (sOp (.alloc 25) 0) c fun c d=>
 RR (sOp (.store 25 (.const c) (.const a)) 0) d fun _ a=>
 RR (sOp (.load 25 (.const c)) 25) a fun a d=>
 RR (aH (.func (.func 10) #[] #[]) [b,a]) d fun a d=>
 RR (sOp (.load 25 (.const c)) 25) d fun d e=>
 RR (aH (.func (.func 12) #[] #[]) [b,d]) e fun d e=>
 RR (aH (.func (.func 11) #[] #[]) [a,d]) e fun d e=>
 RR (sOp (.unOp .not 4 (.const d)) 4) e fun d e=>
 CondV d (
 R (.returned (.bool false)) e) (
 (∃ (d:Value->World->Prop) (f:Value->World->Nat),d (.int .i64 0) e/\
 ∀ e _ _ _ g h i j k l m n o p q r s t u v x y z A B C _ _ _ _:Value,∀ D:World,d e D->
 RR (aq .len #[23] 3 [false] [a]) D fun E F=>
 RR (ao .lss 3 false false e E) F fun E F=>
 CondV E (
 (∃ E:(Nat->Bool)->Value->Value->Value->Value->Value->Value->Value->Value->Value->Value->Value->Value->Value->Value->Value->Value->Value->Value->Value->Value->Value->Value->World->Prop,E (fun _=>false) g h i j k l m n o p q r s t u v x y z A B C { F with drawn:=F.drawn+1 }/\(
 (∀ b:Nat->Bool,b 0=false->∀ c d e f g h i j k l m n o p q r s t u v x y z,E b c d e f g h i j k l m n o p q r s t u v x y z->
 E (aw b 0) c d e f g h i j k l m n o p q r s t u v x a z)/\
 (∀ a:Nat->Bool,a 1=false->∀ b c d f g h i j k l m n o p q r s t u v x y z,E a b c d f g h i j k l m n o p q r s t u v x y z->
 E (aw a 1) b c d f g h i j k l m n o p q r s t u v e y z)/\
 (∀ a:Nat->Bool,a 2=false->a 0=true->a 1=true->∀ b c d e f g h i j k l m n o p q r s t u v x y,E a b c d e f g h i j k l m n o p q r s t u v x y->
 RR (sOp (.indexAddr 23 (.const x) (.const v)) 0) y fun u y=>
 E (aw a 2) b c d e f g h i j k l m n o p q r s t u v x y)/\
 (∀ a:Nat->Bool,a 3=false->a 2=true->∀ b c d e f g h i j k l m n o p q r s t u v x y,E a b c d e f g h i j k l m n o p q r s t u v x y->
 RR (sOp (.load 25 (.const u)) 25) y fun t y=>
 E (aw a 3) b c d e f g h i j k l m n o p q r s t u v x y)/\
 (∀ a:Nat->Bool,a 4=false->∀ b d e f g h i j k l m n o p q r s t u v x y z,E a b d e f g h i j k l m n o p q r s t u v x y z->
 RR (sOp (.load 25 (.const c)) 25) z fun c t=>
 E (aw a 4) b d e f g h i j k l m n o p q r s c u v x y t)/\
 (∀ a:Nat->Bool,a 5=false->a 3=true->a 4=true->∀ b c d e f g h i j k l m n o p q r s t u v x y,E a b c d e f g h i j k l m n o p q r s t u v x y->
 RR (aH (.func (.func 13) #[] #[]) [t,s]) y fun r y=>
 E (aw a 5) b c d e f g h i j k l m n o p q r s t u v x y)/\
 (∀ a:Nat->Bool,a 6=false->a 5=true->∀ b c d e f g h i j k l m n o p q r s t u v x y,E a b c d e f g h i j k l m n o p q r s t u v x y->
 RR (sOp (.unOp .not 4 (.const r)) 4) y fun q y=>
 E (aw a 6) b c d e f g h i j k l m n o p q r s t u v x y)/\
 (∀ a:Nat->Bool,a 7=false->a 6=true->a 5=true->∀ b c d e f g h i j k l m n o p q r s t u v x y,E a b c d e f g h i j k l m n o p q r s t u v x y->
 E (aw a 7) b c d e f g h i j k l m n o q q r s t u v x y)/\
 (∀ a:Nat->Bool,a 8=false->a 7=true->∀ c d e f g h i j k l m n o p q r s t u v x y z,E a c d e f g h i j k l m n o p q r s t u v x y z->
 ag q false (E (aw a 8) c d e f g h i j k l m n o b q r s t u v x y z) (E (aw a 8) c d e f g h i j k l m n o undef q r s t u v x y z))/\
 (∀ b:Nat->Bool,b 9=false->b 7=true->∀ c d e f g h i j k l m n o p q r s t u v x y z,E b c d e f g h i j k l m n o p q r s t u v x y z->
 ag q false (E (aw b 9) c d e f g h i j k l m n a p q r s t u v x y z) (E (aw b 9) c d e f g h i j k l m n undef p q r s t u v x y z))/\
 (∀ a:Nat->Bool,a 10=false->a 7=true->∀ b c d f g h i j k l m n o p q r s t u v x y z,E a b c d f g h i j k l m n o p q r s t u v x y z->
 ag q false (E (aw a 10) b c d f g h i j k l m e o p q r s t u v x y z) (E (aw a 10) b c d f g h i j k l m undef o p q r s t u v x y z))/\
 (∀ a:Nat->Bool,a 11=false->a 9=true->a 10=true->a 7=true->∀ b c d e f g h i j k l m n o p q r s t u v x y,E a b c d e f g h i j k l m n o p q r s t u v x y->
 ag p false (RR (sOp (.indexAddr 23 (.const n) (.const m)) 0) y fun l y=>
 E (aw a 11) b c d e f g h i j k l m n o p q r s t u v x y) (E (aw a 11) b c d e f g h i j k undef m n o p q r s t u v x y))/\
 (∀ a:Nat->Bool,a 12=false->a 11=true->a 7=true->∀ b c d e f g h i j k l m n o p q r s t u v x y,E a b c d e f g h i j k l m n o p q r s t u v x y->
 ag p false (RR (sOp (.load 25 (.const l)) 25) y fun k y=>
 E (aw a 12) b c d e f g h i j k l m n o p q r s t u v x y) (E (aw a 12) b c d e f g h i j undef l m n o p q r s t u v x y))/\
 (∀ a:Nat->Bool,a 13=false->a 8=true->a 12=true->a 7=true->a 7=true->∀ b c d e f g h i j k l m n o p q r s t u v x y,E a b c d e f g h i j k l m n o p q r s t u v x y->
 ag p false (RR (aH (.func (.func 10) #[] #[]) [o,k]) y fun j y=>
 E (aw a 13) b c d e f g h i j k l m n o p q r s t u v x y) (E (aw a 13) b c d e f g h i undef k l m n o p q r s t u v x y))/\
 (∀ b:Nat->Bool,b 14=false->b 7=true->∀ c d e f g h i j k l m n o p q r s t u v x y z,E b c d e f g h i j k l m n o p q r s t u v x y z->
 ag q false (E (aw b 14) c d e f g h i a k l m n o p q r s t u v x y z) (E (aw b 14) c d e f g h i undef k l m n o p q r s t u v x y z))/\
 (∀ a:Nat->Bool,a 15=false->a 7=true->∀ b c d f g h i j k l m n o p q r s t u v x y z,E a b c d f g h i j k l m n o p q r s t u v x y z->
 ag q false (E (aw a 15) b c d f g h e j k l m n o p q r s t u v x y z) (E (aw a 15) b c d f g h undef j k l m n o p q r s t u v x y z))/\
 (∀ a:Nat->Bool,a 16=false->a 7=true->∀ b c d f g h i j k l m n o p q r s t u v x y z,E a b c d f g h i j k l m n o p q r s t u v x y z->
 ag q false (E (aw a 16) b c d f g e i j k l m n o p q r s t u v x y z) (E (aw a 16) b c d f g undef i j k l m n o p q r s t u v x y z))/\
 (∀ a:Nat->Bool,a 17=false->a 16=true->a 7=true->∀ b c d e f g h i j k l m n o p q r s t u v x y,E a b c d e f g h i j k l m n o p q r s t u v x y->
 ag p false (RR (ao .add 3 false true g (.int .i64 1)) y fun f y=>
 E (aw a 17) b c d e f g h i j k l m n o p q r s t u v x y) (E (aw a 17) b c d e undef g h i j k l m n o p q r s t u v x y))/\
 (∀ a:Nat->Bool,a 18=false->a 14=true->a 15=true->a 17=true->a 7=true->∀ b c d e f g h i j k l m n o p q r s t u v x y,E a b c d e f g h i j k l m n o p q r s t u v x y->
 ag p false (RR (sOp (.slice 23 (.const i) (some (.const h)) (some (.const f)) none) 23) y fun e y=>
 E (aw a 18) b c d e f g h i j k l m n o p q r s t u v x y) (E (aw a 18) b c d undef f g h i j k l m n o p q r s t u v x y))/\
 (∀ a:Nat->Bool,a 19=false->a 13=true->a 18=true->a 13=true->a 7=true->∀ b c d e f g h i j k l m n o p q r s t u v x y,E a b c d e f g h i j k l m n o p q r s t u v x y->
 ag p false (RR (aH (.func (.func 11) #[] #[]) [j,e]) y fun d y=>
 E (aw a 19) b c d e f g h i j k l m n o p q r s t u v x y) (E (aw a 19) b c undef e f g h i j k l m n o p q r s t u v x y))/\
 (∀ a:Nat->Bool,a 20=false->a 19=true->a 7=true->∀ b c d e f g h i j k l m n o p q r s t u v x y,E a b c d e f g h i j k l m n o p q r s t u v x y->
 ag p false (RR (sOp (.unOp .not 4 (.const d)) 4) y fun c y=>
 E (aw a 20) b c d e f g h i j k l m n o p q r s t u v x y) (E (aw a 20) b undef d e f g h i j k l m n o p q r s t u v x y))/\
 (∀ a:Nat->Bool,a 21=false->a 7=true->a 20=true->∀ b c d e f g h i j k l m n o p q r s t u v x y,E a b c d e f g h i j k l m n o p q r s t u v x y->
 RR (sOp (.pick (.const p) (.const (.bool true)) (.const c)) 4) y fun b y=>
 E (aw a 21) b c d e f g h i j k l m n o p q r s t u v x y)/\
 True)/\
 ∀ a:Nat->Bool,a 21=true->a 20=true->a 19=true->a 18=true->a 17=true->a 16=true->a 15=true->a 14=true->a 13=true->a 12=true->a 11=true->a 10=true->a 9=true->a 8=true->a 7=true->a 6=true->a 5=true->a 4=true->a 3=true->a 2=true->a 1=true->a 0=true->∀ b c g h i j k l m n o p q r s t u v x y z A B,E a b c g h i j k l m n o p q r s t u v x y z A B->
 CondV b (
 R (.returned (.bool false)) B) (
 RR (ao .add 3 false true e (.int .i64 1)) B fun a b=>
 d a b/\f a b<f e D))) (
 R (.returned (.bool true)) F))))
theorem ne {p0:Value} {w:World} {R:Ending->World->Prop} (h:j8 p0 w R):Calls Tryz.prog 3 #[p0] w R:=
  aN (.seq none .leaf (.seq none .leaf (.seq none .leaf (.seq none .leaf (.seq none .leaf (.seq none (.seq none .leaf (.one (.loop [6] .leaf))) .leaf)))))) [p0] bh Tryz.func3 (by kernel_rfl) (by kernel_rfl) h


/- loop.example/prologserver/spec.DrawFactsFor : function 9 -/
def iQ (p0:Value) (w:World) (R:Ending->World->Prop):Prop:=
 RR (sOp (.alloc 25) 0) w fun a b=>
 RR (aH (.func (.func 32) #[] #[]) [p0]) b fun b c=>
 RR (aH (.func (.func 33) #[] #[]) [b]) c fun c d=>
 RR (aH (.func (.func 22) #[] #[]) [c]) d fun c d=>
 RR (sOp (.extract (.const c) 0) 23) d fun d e=>
 RR (sOp (.extract (.const c) 1) 4) e fun _ c=>
 RR (aH (.func (.func 35) #[] #[]) [b]) c fun c e=>
 RR (aH (.func (.func 34) #[] #[]) [b,c]) e fun b c=>
 RR (sOp (.store 25 (.const a) (.const b)) 0) c fun _ b=>
 (a4 Tryz.prog 25 a b fun a=>R (.returned (.tuple #[d,a])) b)
theorem lP {p0:Value} {w:World} {R:Ending->World->Prop} (h:iQ p0 w R):Calls Tryz.prog 9 #[p0] w R:=
  aN .leaf [p0] bh Tryz.func9 (by kernel_rfl) (by kernel_rfl) h


/- loop.example/prologserver/impl.FactsFor : function 10 -/
def mQ (p0 p1:Value) (w:World) (R:Ending->World->Prop):Prop:=
 RR (sOp (.box 25 (.const p1)) 0) w fun a b=>
 RR (aH (.func (.func 38) #[] #[]) [p0]) b fun b c=>
 RR (hH (.func 39) [] [a]) c fun a c=>
 RR (aH (.func (.func 37) #[] #[]) [b,a]) c fun a b=>
 RR (aH (.func (.func 36) #[] #[]) [a]) b fun a b=>
 R (.returned a) b
theorem pF {p0 p1:Value} {w:World} {R:Ending->World->Prop} (h:mQ p0 p1 w R):Calls Tryz.prog 10 #[p0,p1] w R:=
  aN .leaf [p0,p1] bh Tryz.func10 (by kernel_rfl) (by kernel_rfl) h


/- loop.example/prologserver/laws.pgTerms : function 11 -/
def o9 (p0 p1:Value) (w:World) (R:Ending->World->Prop):Prop:=
 RR (aq .len #[23] 3 [false] [p0]) w fun a b=>
 RR (aq .len #[23] 3 [false] [p1]) b fun b c=>
 RR (ao .neq 3 false false a b) c fun a b=>
 CondV a (
 R (.returned (.bool false)) b) (
 (∃ (a:Value->World->Prop) (c:Value->World->Nat),a (.int .i64 0) b/\
 ∀ b _ _ _ d e f g h i j k l m _ _ _ _:Value,∀ n:World,a b n->
 RR (aq .len #[23] 3 [false] [p0]) n fun o p=>
 RR (ao .lss 3 false false b o) p fun o p=>
 CondV o (
 (∃ o:(Nat->Bool)->Value->Value->Value->Value->Value->Value->Value->Value->Value->Value->World->Prop,o (fun _=>false) d e f g h i j k l m { p with drawn:=p.drawn+1 }/\(
 (∀ a:Nat->Bool,a 0=false->∀ b c d e f g h i j k l,o a b c d e f g h i j k l->
 o (aw a 0) b c d e f g h i j p0 l)/\
 (∀ a:Nat->Bool,a 1=false->∀ c d e f g h i j k l m,o a c d e f g h i j k l m->
 o (aw a 1) c d e f g h i j b l m)/\
 (∀ a:Nat->Bool,a 2=false->a 0=true->a 1=true->∀ b c d e f g h i j k l,o a b c d e f g h i j k l->
 RR (sOp (.indexAddr 23 (.const k) (.const j)) 0) l fun i l=>
 o (aw a 2) b c d e f g h i j k l)/\
 (∀ a:Nat->Bool,a 3=false->a 2=true->∀ b c d e f g h i j k l,o a b c d e f g h i j k l->
 RR (sOp (.load 25 (.const i)) 25) l fun h l=>
 o (aw a 3) b c d e f g h i j k l)/\
 (∀ a:Nat->Bool,a 4=false->∀ b c d e f g h i j k l,o a b c d e f g h i j k l->
 o (aw a 4) b c d e f p1 h i j k l)/\
 (∀ a:Nat->Bool,a 5=false->∀ c d e f g h i j k l m,o a c d e f g h i j k l m->
 o (aw a 5) c d e f b h i j k l m)/\
 (∀ a:Nat->Bool,a 6=false->a 4=true->a 5=true->∀ b c d e f g h i j k l,o a b c d e f g h i j k l->
 RR (sOp (.indexAddr 23 (.const g) (.const f)) 0) l fun e l=>
 o (aw a 6) b c d e f g h i j k l)/\
 (∀ a:Nat->Bool,a 7=false->a 6=true->∀ b c d e f g h i j k l,o a b c d e f g h i j k l->
 RR (sOp (.load 25 (.const e)) 25) l fun d l=>
 o (aw a 7) b c d e f g h i j k l)/\
 (∀ a:Nat->Bool,a 8=false->a 3=true->a 7=true->∀ b c d e f g h i j k l,o a b c d e f g h i j k l->
 RR (aH (.func (.func 40) #[] #[]) [h,d]) l fun c l=>
 o (aw a 8) b c d e f g h i j k l)/\
 (∀ a:Nat->Bool,a 9=false->a 8=true->∀ b c d e f g h i j k l,o a b c d e f g h i j k l->
 RR (sOp (.unOp .not 4 (.const c)) 4) l fun b l=>
 o (aw a 9) b c d e f g h i j k l)/\
 True)/\
 ∀ d:Nat->Bool,d 9=true->d 8=true->d 7=true->d 6=true->d 5=true->d 4=true->d 3=true->d 2=true->d 1=true->d 0=true->∀ e f g h i j k l m p q,o d e f g h i j k l m p q->
 CondV e (
 R (.returned (.bool false)) q) (
 RR (ao .add 3 false true b (.int .i64 1)) q fun d e=>
 a d e/\c d e<c b n))) (
 R (.returned (.bool true)) p)))
theorem ss {p0 p1:Value} {w:World} {R:Ending->World->Prop} (h:o9 p0 p1 w R):Calls Tryz.prog 11 #[p0,p1] w R:=
  aN (.seq none .leaf (.seq none .leaf (.seq none (.seq none .leaf (.one (.loop [5] .leaf))) .leaf))) [p0,p1] bh Tryz.func11 (by kernel_rfl) (by kernel_rfl) h


/- loop.example/prologserver/spec.FactsFor : function 12 -/
def mA (p0 p1:Value) (w:World) (R:Ending->World->Prop):Prop:=
 RR (sOp (.box 25 (.const p1)) 0) w fun a b=>
 RR (aW 23 0 []) b fun b c=>
 (∃ (d:Value->Value->World->Prop) (e:Value->Value->World->Nat),d (.int .i64 0) b c/\
 ∀ b _ _ c _ _ _ _ _ _ _ _ f g h i j k _ _ _ _:Value,∀ l:World,d b c l->
 RR (aq .len #[23] 3 [false] [p0]) l fun m n=>
 RR (ao .lss 3 false false b m) n fun m n=>
 CondV m (
 (∃ m:Value->World->Prop,(
 (∃ d:(Nat->Bool)->Value->Value->Value->Value->Value->Value->World->Prop,d (fun _=>false) f g h i j k { n with drawn:=n.drawn+1 }/\(
 (∀ a:Nat->Bool,a 0=false->∀ b c e f g h i,d a b c e f g h i->
 d (aw a 0) b c e f g p0 i)/\
 (∀ a:Nat->Bool,a 1=false->∀ c e f g h i j,d a c e f g h i j->
 d (aw a 1) c e f g b i j)/\
 (∀ a:Nat->Bool,a 2=false->a 0=true->a 1=true->∀ b c e f g h i,d a b c e f g h i->
 RR (sOp (.indexAddr 23 (.const h) (.const g)) 0) i fun f i=>
 d (aw a 2) b c e f g h i)/\
 (∀ a:Nat->Bool,a 3=false->a 2=true->∀ b c e f g h i,d a b c e f g h i->
 RR (sOp (.load 25 (.const f)) 25) i fun e i=>
 d (aw a 3) b c e f g h i)/\
 (∀ b:Nat->Bool,b 4=false->∀ c e f g h i j,d b c e f g h i j->
 RR (sOp (.load 25 (.const a)) 25) j fun a e=>
 d (aw b 4) c a f g h i e)/\
 (∀ a:Nat->Bool,a 5=false->a 3=true->a 4=true->∀ b c e f g h i,d a b c e f g h i->
 RR (aH (.func (.func 41) #[] #[]) [e,c]) i fun b i=>
 d (aw a 5) b c e f g h i)/\
 True)/\
 ∀ a:Nat->Bool,a 5=true->a 4=true->a 3=true->a 2=true->a 1=true->a 0=true->∀ e f g h i j k,d a e f g h i j k->
 CondV e (
 RR (sOp (.indexAddr 23 (.const p0) (.const b)) 0) k fun a b=>
 RR (sOp (.load 25 (.const a)) 25) b fun a b=>
 RR (aH (.func (.func 42) #[] #[]) [a]) b fun a b=>
 RR (aW 23 1 [(0,a)]) b fun a b=>
 RR (aq .append #[23,23] 23 [false,false] [c,a]) b fun a b=>
 m a b) (
 m c k)))/\
 ∀ a _ _ _ _ _ _ _ _ _ _ _ _ _ _:Value,∀ f:World,m a f->
 RR (ao .add 3 false true b (.int .i64 1)) f fun f g=>
 d f a g/\e f a g<e b c l)) (
 R (.returned c) n))
theorem pH {p0 p1:Value} {w:World} {R:Ending->World->Prop} (h:mA p0 p1 w R):Calls Tryz.prog 12 #[p0,p1] w R:=
  aN (.seq none .leaf (.seq none .leaf (.seq none (.seq none .leaf (.one (.loop [6,5] (.seq none .leaf (.seq (some [5]) .leaf .leaf))))) .leaf))) [p0,p1] bh Tryz.func12 (by kernel_rfl) (by kernel_rfl) h


/- loop.example/prologserver/impl.InstanceOf : function 13 -/
def kx (p0 p1:Value) (w:World) (R:Ending->World->Prop):Prop:=
 RR (sOp (.box 25 (.const p0)) 0) w fun a b=>
 RR (sOp (.box 25 (.const p1)) 0) b fun b c=>
 RR (sOp (.load 25 (.const a)) 25) c fun c d=>
 RR (aH (.func (.func 43) #[] #[]) [c]) d fun c d=>
 ((fun a:VW=>ag c true (
 RR (sOp (.load 25 (.const b)) 25) d fun b d=>
 RR (aH (.func (.func 43) #[] #[]) [b]) d fun b d=>
 RR (sOp (.pick (.const c) (.const b) (.const (.bool false))) 4) d fun b c=>a b c) (
 RR (sOp (.pick (.const c) (.const undef) (.const (.bool false))) 4) d fun b c=>a b c)) fun c d=>
 ag c true (
 RR (sOp (.load 25 (.const a)) 25) d fun a d=>
 RR (sOp (.load 25 (.const b)) 25) d fun b d=>
 RR (sOp (.makeMap 59 none) 59) d fun d e=>
 RR (aH (.func (.func 44) #[] #[]) [a,b,d]) e fun a b=>
 RR (sOp (.pick (.const c) (.const a) (.const (.bool false))) 4) b fun a b=>
 R (.returned a) b) (
 RR (sOp (.pick (.const c) (.const undef) (.const (.bool false))) 4) d fun a b=>
 R (.returned a) b))
theorem nh {p0 p1:Value} {w:World} {R:Ending->World->Prop} (h:kx p0 p1 w R):Calls Tryz.prog 13 #[p0,p1] w R:=
  aN .leaf [p0,p1] bh Tryz.func13 (by kernel_rfl) (by kernel_rfl) h


/- loop.example/prologserver/spec.FlatProgram : function 18 -/
def jz (p0:Value) (w:World) (R:Ending->World->Prop):Prop:=
 (∃ (a:Value->World->Prop) (b:Value->World->Nat),a (.int .i64 0) w/\
 ∀ c _ _ _ _ _ _ _ _ _ _ _ _ _ _ _ _ _:Value,∀ d:World,a c d->
 (∃ e:Value->World->Prop,(
 RR (aq .len #[32] 3 [false] [p0]) d fun a b=>
 RR (ao .lss 3 false false c a) b fun a b=>
 ag a true (
 RR (aH (.func (.func 50) #[] #[]) [p0]) b fun b c=>
 RR (sOp (.pick (.const a) (.const b) (.const (.bool false))) 4) c fun a b=>
 e a b) (
 RR (sOp (.pick (.const a) (.const undef) (.const (.bool false))) 4) b fun a b=>
 e a b))/\
 ∀ f _ _ _ _ _ _ _:Value,∀ g:World,e f g->
 CondV f (
 RR (sOp (.indexAddr 32 (.const p0) (.const c)) 0) g fun e f=>
 RR (sOp (.load 39 (.const e)) 39) f fun e f=>
 RR (aH (.func (.func 51) #[] #[]) [e]) f fun e f=>
 RR (sOp (.unOp .not 4 (.const e)) 4) f fun e f=>
 CondV e (
 R (.returned (.bool false)) f) (
 RR (ao .add 3 false true c (.int .i64 1)) f fun e f=>
 a e f/\b e f<b c d)) (
 RR (aH (.func (.func 50) #[] #[]) [p0]) g fun a b=>
 R (.returned a) b)))
theorem mg {p0:Value} {w:World} {R:Ending->World->Prop} (h:jz p0 w R):Calls Tryz.prog 18 #[p0] w R:=
  aN (.seq none .leaf (.seq none (.seq none .leaf (.one (.loop [3] (.seq none (.seq (some [11]) .leaf .leaf) .leaf)))) .leaf)) [p0] bh Tryz.func18 (by kernel_rfl) (by kernel_rfl) h


/- loop.example/prologserver/spec.LeastModel : function 22 -/
def kE (p0:Value) (w:World) (R:Ending->World->Prop):Prop:=
 RR (aH (.func (.func 26) #[] #[]) [p0,(.int .i64 61)]) w fun a b=>
 RR (sOp (.extract (.const a) 0) 23) b fun b c=>
 RR (sOp (.extract (.const a) 1) 4) c fun a c=>
 R (.returned (.tuple #[b,a])) c
theorem mY {p0:Value} {w:World} {R:Ending->World->Prop} (h:kE p0 w R):Calls Tryz.prog 22 #[p0] w R:=
  aN .leaf [p0] bh Tryz.func22 (by kernel_rfl) (by kernel_rfl) h


/- loop.example/prologserver/spec.StageModel : function 26 -/
def kD (p0 p1:Value) (w:World) (R:Ending->World->Prop):Prop:=
 (∃ a:Value->World->Prop,(
 RR (aH (.func (.func 18) #[] #[]) [p0]) w fun b c=>
 RR (sOp (.unOp .not 4 (.const b)) 4) c fun b c=>
 ag b false (
 RR (ao .lss 3 false true p1 (.int .i64 0)) c fun c d=>
 RR (sOp (.pick (.const b) (.const (.bool true)) (.const c)) 4) d fun b c=>
 a b c) (
 RR (sOp (.pick (.const b) (.const (.bool true)) (.const undef)) 4) c fun b c=>
 a b c))/\
 ∀ b _ _ _ _ _ _:Value,∀ c:World,a b c->
 CondV b (
 RR (aW 23 0 []) c fun a b=>
 R (.returned (.tuple #[a,(.bool false)])) b) (
 (∃ a:Value->World->Prop,(
 RR (ao .gtr 3 false true p1 (.int .i64 60)) c fun b c=>
 CondV b (
 a (.int .i64 61) c) (
 a p1 c))/\
 ∀ b _ _:Value,∀ c:World,a b c->
 RR (aH (.func (.func 52) #[] #[]) [p0,b]) c fun a b=>
 RR (sOp (.extract (.const a) 0) 23) b fun b c=>
 RR (sOp (.extract (.const a) 1) 3) c fun _ a=>
 RR (aq .len #[23] 3 [false] [b]) a fun a c=>
 RR (ao .gtr 3 false true a (.int .i64 60)) c fun a c=>
 CondV a (
 RR (aW 23 0 []) c fun a b=>
 R (.returned (.tuple #[a,(.bool false)])) b) (
 RR (aH (.func (.func 62) #[] #[]) [b]) c fun a b=>
 R (.returned (.tuple #[a,(.bool true)])) b))))
theorem np {p0 p1:Value} {w:World} {R:Ending->World->Prop} (h:kD p0 p1 w R):Calls Tryz.prog 26 #[p0,p1] w R:=
  aN (.seq none .leaf (.seq none (.seq (some [14]) .leaf .leaf) (.seq (some [1]) .leaf .leaf))) [p0,p1] bh Tryz.func26 (by kernel_rfl) (by kernel_rfl) h


/- loop.example/prologserver/spec.l18Open : function 32 -/
def oD (p0:Value) (w:World) (R:Ending->World->Prop):Prop:=
 (∃ a:Value->World->Prop,(
 RR (aq .len #[22] 3 [false] [p0]) w fun b c=>
 RR (ao .gtr 3 false true b (.int .i64 2000)) c fun b c=>
 CondV b (
 RR (sOp (.slice 22 (.const p0) none (some (.const (.int .i64 2000))) none) 22) c fun b c=>
 a b c) (
 a p0 c))/\
 ∀ b _ _ _ _ _:Value,∀ c:World,a b c->
 RR (cK 78 [(0,b)]) c fun a b=>
 RR (sOp (.box 78 (.const a)) 49) b fun a b=>
 R (.returned a) b)
theorem rZ {p0:Value} {w:World} {R:Ending->World->Prop} (h:oD p0 w R):Calls Tryz.prog 32 #[p0] w R:=
  aN (.seq none .leaf (.seq (some [0]) .leaf .leaf)) [p0] bh Tryz.func32 (by kernel_rfl) (by kernel_rfl) h


/- loop.example/prologserver/spec.l16Program : function 33 -/
def kj (p0:Value) (w:World) (R:Ending->World->Prop):Prop:=
 RR (aH (.func (.func 73) #[] #[]) []) w fun a b=>
 RR (aq .len #[67] 3 [false] [a]) b fun b c=>
 RR (aH (.func (.func 69) #[] #[]) [p0,b]) c fun b c=>
 RR (sOp (.indexAddr 67 (.const a) (.const b)) 0) c fun a b=>
 RR (sOp (.load 9 (.const a)) 9) b fun a b=>
 RR (aH (.func (.func 74) #[] #[]) [a]) b fun a b=>
 RR (sOp (.extract (.const a) 0) 32) b fun b c=>
 RR (sOp (.extract (.const a) 1) 4) c fun _ a=>
 (∃ c:Value->World->Prop,(
 RR (aH (.func (.func 69) #[] #[]) [p0,(.int .i64 8)]) a fun a d=>
 RR (ao .eql 3 false true a (.int .i64 0)) d fun a d=>
 CondV a (
 RR (aH (.func (.func 75) #[] #[]) [p0]) d fun a b=>
 c a b) (
 c b d))/\
 ∀ a _ _ _ _ _:Value,∀ b:World,c a b->
 R (.returned a) b)
theorem nC {p0:Value} {w:World} {R:Ending->World->Prop} (h:kj p0 w R):Calls Tryz.prog 33 #[p0] w R:=
  aN (.seq none .leaf (.seq none .leaf (.seq none .leaf (.seq (some [4]) .leaf .leaf)))) [p0] bh Tryz.func33 (by kernel_rfl) (by kernel_rfl) h


/- loop.example/prologserver/spec.l1Mutate : function 34 -/
def mT (p0 p1:Value) (w:World) (R:Ending->World->Prop):Prop:=
 RR (sOp (.box 25 (.const p1)) 0) w fun a b=>
 RR (sOp (.alloc 25) 0) b fun b c=>
 RR (sOp (.load 25 (.const a)) 25) c fun a c=>
 RR (aH (.func (.func 42) #[] #[]) [a]) c fun a c=>
 RR (sOp (.alloc 25) 0) c fun c d=>
 RR (sOp (.store 25 (.const c) (.const a)) 0) d fun _ a=>
 (∃ d:World->Prop,(
 RR (aH (.func (.func 69) #[] #[]) [p0,(.int .i64 50)]) a fun a b=>
 RR (ao .eql 3 false true a (.int .i64 0)) b fun b e=>
 CondV b (
 RR (aW 71 5 [(0,(.int .i64 0)),(1,(.int .i64 4)),(2,(.int .i64 1)),(3,(.int .i64 2)),(4,(.int .i64 3))]) e fun a b=>
 RR (aH (.func (.func 61) #[] #[]) [p0,a]) b fun a b=>
 RR (sOp (.fieldAddr 25 (.const c) 0) 0) b fun b c=>
 RR (sOp (.store 3 (.const b) (.const a)) 0) c fun _ a=>
 d a) (
 RR (ao .eql 3 false true a (.int .i64 1)) e fun b e=>
 CondV b (
 RR (aW 71 5 [(0,(.int .i64 26)),(1,(.int .i64 1000)),(2,(.int .i64 (-1000))),(3,(.int .i64 (-1))),(4,(.int .i64 1))]) e fun a b=>
 RR (aH (.func (.func 61) #[] #[]) [p0,a]) b fun a b=>
 RR (sOp (.fieldAddr 25 (.const c) 1) 0) b fun b c=>
 RR (sOp (.store 3 (.const b) (.const a)) 0) c fun _ a=>
 d a) (
 RR (ao .eql 3 false true a (.int .i64 2)) e fun b e=>
 CondV b (
 RR (aW 67 5 [(0,(.string ⟨#[]⟩)),(1,(.string ⟨#[88]⟩)),(2,(.string ⟨#[116,111,111,108,111,110,103]⟩)),(3,(.string ⟨#[195,169]⟩)),(4,(.string ⟨#[97]⟩))]) e fun a b=>
 RR (aH (.func (.func 76) #[] #[]) [p0,a]) b fun a b=>
 RR (sOp (.fieldAddr 25 (.const c) 2) 0) b fun b c=>
 RR (sOp (.store 9 (.const b) (.const a)) 0) c fun _ a=>
 d a) (
 RR (ao .eql 3 false true a (.int .i64 3)) e fun b e=>
 CondV b (
 (∃ (a:World->Prop) (b:World->Nat),a e/\
 ∀ e f g h i j _ _ _ _:Value,∀ k:World,a k->
 RR (sOp (.fieldAddr 25 (.const c) 3) 0) k fun l m=>
 RR (sOp (.load 23 (.const l)) 23) m fun l m=>
 RR (aq .len #[23] 3 [false] [l]) m fun l m=>
 RR (ao .leq 3 false true l (.int .i64 4)) m fun l m=>
 CondV l (
 (∃ d:(Nat->Bool)->Value->Value->Value->Value->Value->Value->World->Prop,d (fun _=>false) e f g h i j { m with drawn:=m.drawn+1 }/\(
 (∀ a:Nat->Bool,a 0=false->∀ b e f g h i j,d a b e f g h i j->
 RR (sOp (.fieldAddr 25 (.const c) 3) 0) j fun c i=>
 d (aw a 0) b e f g h c i)/\
 (∀ a:Nat->Bool,a 1=false->a 0=true->∀ b c e f g h i,d a b c e f g h i->
 RR (sOp (.load 23 (.const h)) 23) i fun g i=>
 d (aw a 1) b c e f g h i)/\
 (∀ a:Nat->Bool,a 2=false->∀ b c e f g h i,d a b c e f g h i->
 RR (aH (.func (.func 77) #[] #[]) [(.int .i64 1)]) i fun f i=>
 d (aw a 2) b c e f g h i)/\
 (∀ a:Nat->Bool,a 3=false->a 2=true->∀ b c e f g h i,d a b c e f g h i->
 RR (aW 23 1 [(0,f)]) i fun e i=>
 d (aw a 3) b c e f g h i)/\
 (∀ a:Nat->Bool,a 4=false->a 1=true->a 3=true->a 2=true->∀ b c e f g h i,d a b c e f g h i->
 RR (aq .append #[23,23] 23 [false,false] [g,e]) i fun c i=>
 d (aw a 4) b c e f g h i)/\
 (∀ a:Nat->Bool,a 5=false->a 0=true->a 1=true->a 2=true->a 3=true->a 4=true->∀ b e f g h i j,d a b e f g h i j->
 RR (sOp (.fieldAddr 25 (.const c) 3) 0) j fun b c=>
 d (aw a 5) b e f g h i c)/\
 (∀ a:Nat->Bool,a 6=false->a 5=true->a 4=true->a 4=true->a 0=true->a 1=true->a 2=true->a 3=true->a 4=true->∀ b c e f g h i,d a b c e f g h i->
 RR (sOp (.store 23 (.const b) (.const c)) 0) i fun _ i=>
 d (aw a 6) b c e f g h i)/\
 True)/\
 ∀ c:Nat->Bool,c 6=true->c 5=true->c 4=true->c 3=true->c 2=true->c 1=true->c 0=true->∀ e f g h i j l,d c e f g h i j l->
 a l/\b l<b k)) (
 d m))) (
 RR (ao .eql 3 false true a (.int .i64 4)) e fun a b=>
 CondV a (
 (∃ (a:Value->World->Prop) (e:Value->World->Nat),a (.int .i64 0) b/\
 ∀ b _ _ _ _ _ _ _:Value,∀ f:World,a b f->
 RR (ao .lss 3 false true b (.int .i64 30)) f fun g h=>
 CondV g (
 RR (sOp (.load 25 (.const c)) 25) h fun d g=>
 RR (aW 23 1 [(0,d)]) g fun d g=>
 RR (aH (.func (.func 78) #[] #[]) [(.string ⟨#[115]⟩),d]) g fun d g=>
 RR (sOp (.store 25 (.const c) (.const d)) 0) g fun _ c=>
 RR (ao .add 3 false true b (.int .i64 1)) c fun c d=>
 a c d/\e c d<e b f) (
 d h))) (
 d b))))))/\
 ∀ _ _ _ _ _ _ _ _ _ _ _ _ _ _ _ _ _ _ _ _ _ _ _ _ _ _ _ _ _ _ _ _ _ _ _ _ _ _ _ _ _ _:Value,∀ a:World,d a->
 RR (sOp (.load 25 (.const c)) 25) a fun a c=>
 RR (sOp (.store 25 (.const b) (.const a)) 0) c fun _ a=>
 (a4 Tryz.prog 25 b a fun b=>R (.returned b) a))
theorem pY {p0 p1:Value} {w:World} {R:Ending->World->Prop} (h:mT p0 p1 w R):Calls Tryz.prog 34 #[p0,p1] w R:=
  aN (.seq none .leaf (.seq none .leaf (.seq (some []) (.seq none .leaf (.one (.seq none .leaf (.two .leaf (.seq none .leaf (.two .leaf (.seq none .leaf (.two .leaf (.seq none .leaf (.two (.one (.loop [] .leaf)) (.seq none .leaf (.two (.seq none .leaf (.one (.loop [6] .leaf))) .leaf)))))))))))) .leaf))) [p0,p1] bh Tryz.func34 (by kernel_rfl) (by kernel_rfl) h


/- loop.example/prologserver/spec.l16Goal : function 35 -/
def oj (p0:Value) (w:World) (R:Ending->World->Prop):Prop:=
 RR (sOp (.alloc 25) 0) w fun a b=>
 RR (aH (.func (.func 79) #[] #[]) []) b fun b c=>
 RR (aq .len #[67] 3 [false] [b]) c fun c d=>
 RR (aH (.func (.func 69) #[] #[]) [p0,c]) d fun c d=>
 RR (sOp (.indexAddr 67 (.const b) (.const c)) 0) d fun b c=>
 RR (sOp (.load 9 (.const b)) 9) c fun b c=>
 RR (aH (.func (.func 80) #[] #[]) [b]) c fun b c=>
 RR (sOp (.extract (.const b) 0) 25) c fun c d=>
 RR (sOp (.extract (.const b) 1) 4) d fun _ b=>
 RR (sOp (.alloc 25) 0) b fun b d=>
 RR (sOp (.store 25 (.const b) (.const c)) 0) d fun _ c=>
 RR (sOp (.load 25 (.const b)) 25) c fun b c=>
 RR (sOp (.store 25 (.const a) (.const b)) 0) c fun _ b=>
 (a4 Tryz.prog 25 a b fun a=>R (.returned a) b)
theorem rP {p0:Value} {w:World} {R:Ending->World->Prop} (h:oj p0 w R):Calls Tryz.prog 35 #[p0] w R:=
  aN .leaf [p0] bh Tryz.func35 (by kernel_rfl) (by kernel_rfl) h


/- loop.example/prologserver/impl.ownList : function 36 -/
def oY (p0:Value) (w:World) (R:Ending->World->Prop):Prop:=
 RR (aq .len #[23] 3 [false] [p0]) w fun a b=>
 (∃ (c:Value->Value->World->Prop) (d:Value->Value->World->Nat),c (.int .i64 0) (Value.slice none 0 0) b/\
 ∀ b _ e _ _ _ _ _ _ _ _ _:Value,∀ f:World,c b e f->
 RR (ao .lss 3 false false b a) f fun a g=>
 CondV a (
 RR (sOp (.indexAddr 23 (.const p0) (.const b)) 0) g fun a g=>
 RR (sOp (.load 25 (.const a)) 25) g fun a g=>
 RR (sOp (.alloc 25) 0) g fun g h=>
 RR (sOp (.store 25 (.const g) (.const a)) 0) h fun _ a=>
 RR (sOp (.load 25 (.const g)) 25) a fun a g=>
 RR (aH (.func (.func 81) #[] #[]) [a]) g fun a g=>
 RR (aW 23 1 [(0,a)]) g fun a g=>
 RR (aq .append #[23,23] 23 [false,false] [e,a]) g fun a g=>
 RR (ao .add 3 false true b (.int .i64 1)) g fun g h=>
 c g a h/\d g a h<d b e f) (
 R (.returned e) g))
theorem sc {p0:Value} {w:World} {R:Ending->World->Prop} (h:oY p0 w R):Calls Tryz.prog 36 #[p0] w R:=
  aN (.seq none .leaf (.seq none .leaf (.seq none (.seq none .leaf (.one (.loop [8,3] .leaf))) .leaf))) [p0] bh Tryz.func36 (by kernel_rfl) (by kernel_rfl) h


/- slices.DeleteFunc[[]loop.example/prologserver/impl.Term,loop.example/prologserver/impl.Term] : function 37 -/
def gy (p0 p1:Value) (w:World) (R:Ending->World->Prop):Prop:=
 RR (aH (.func (.func 82) #[] #[]) [p0,p1]) w fun a b=>
 RR (ao .eql 3 false true a (.int .i64 (-1))) b fun b c=>
 CondV b (
 R (.returned p0) c) (
 RR (ao .add 3 false true a (.int .i64 1)) c fun b c=>
 (∃ (d:Value->Value->World->Prop) (e:Value->Value->World->Nat),d b a c/\
 ∀ a _ _ b _ _ _ _ _ _ _ _ _ _ _ _ _ _ _ _ _ _ _:Value,∀ c:World,d a b c->
 RR (aq .len #[23] 3 [false] [p0]) c fun f g=>
 RR (ao .lss 3 false false a f) g fun f g=>
 CondV f (
 (∃ f:Value->World->Prop,(
 RR (sOp (.indexAddr 23 (.const p0) (.const a)) 0) g fun a c=>
 RR (sOp (.load 25 (.const a)) 25) c fun a c=>
 RR (sOp (.alloc 25) 0) c fun c d=>
 RR (sOp (.store 25 (.const c) (.const a)) 0) d fun _ a=>
 RR (sOp (.load 25 (.const c)) 25) a fun a d=>
 RR (aH p1 [a]) d fun a d=>
 RR (sOp (.unOp .not 4 (.const a)) 4) d fun a d=>
 CondV a (
 RR (sOp (.load 25 (.const c)) 25) d fun a c=>
 RR (sOp (.indexAddr 23 (.const p0) (.const b)) 0) c fun c d=>
 RR (sOp (.store 25 (.const c) (.const a)) 0) d fun _ a=>
 RR (ao .add 3 false true b (.int .i64 1)) a fun a b=>
 f a b) (
 f b d))/\
 ∀ g _ _ _ _ _ _ _ _ _ _ _ _ _ _ _:Value,∀ h:World,f g h->
 RR (ao .add 3 false true a (.int .i64 1)) h fun f h=>
 d f g h/\e f g h<e a b c)) (
 RR (sOp (.slice 23 (.const p0) (some (.const b)) none none) 23) g fun a c=>
 RR (aq .clear #[23] 0 [false] [a]) c fun _ a=>
 RR (sOp (.slice 23 (.const p0) none (some (.const b)) none) 23) a fun a b=>
 R (.returned a) b)))
theorem js {p0 p1:Value} {w:World} {R:Ending->World->Prop} (h:gy p0 p1 w R):Calls Tryz.prog 37 #[p0,p1] w R:=
  aN (.seq none .leaf (.seq none .leaf (.seq none .leaf (.seq none (.seq none .leaf (.one (.loop [6,5] (.seq none .leaf (.seq (some [5]) .leaf .leaf))))) .leaf)))) [p0,p1] bh Tryz.func37 (by kernel_rfl) (by kernel_rfl) h


/- slices.Clone[[]loop.example/prologserver/impl.Term,loop.example/prologserver/impl.Term] : function 38 -/
def ko (p0:Value) (w:World) (R:Ending->World->Prop):Prop:=
 RR (ao .eql 23 false true p0 (Value.slice none 0 0)) w fun a b=>
 CondV a (
 R (.returned (Value.slice none 0 0)) b) (
 RR (aW 23 0 []) b fun a b=>
 RR (aq .append #[23,23] 23 [false,false] [a,p0]) b fun a b=>
 R (.returned a) b)
theorem nf {p0:Value} {w:World} {R:Ending->World->Prop} (h:ko p0 w R):Calls Tryz.prog 38 #[p0] w R:=
  aN .leaf [p0] bh Tryz.func38 (by kernel_rfl) (by kernel_rfl) h


/- loop.example/prologserver/impl.FactsFor$1 : function 39 -/
def j9 (p0 p1:Value) (w:World) (R:Ending->World->Prop):Prop:=
 RR (sOp (.box 25 (.const p0)) 0) w fun a b=>
 RR (sOp (.load 25 (.const a)) 25) b fun a b=>
 RR (sOp (.load 25 (.const p1)) 25) b fun b c=>
 RR (aH (.func (.func 13) #[] #[]) [a,b]) c fun a b=>
 RR (sOp (.unOp .not 4 (.const a)) 4) b fun a b=>
 R (.returned a) b
theorem nj {p0 p1:Value} {w:World} {R:Ending->World->Prop} (h:j9 p0 p1 w R):Calls Tryz.prog 39 #[p0,p1] w R:=
  aN .leaf [p0,p1] bh Tryz.func39 (by kernel_rfl) (by kernel_rfl) h


/- loop.example/prologserver/impl.TermSame : function 40 -/
def mW (p0 p1:Value) (w:World) (R:Ending->World->Prop):Prop:=
 RR (sOp (.box 25 (.const p0)) 0) w fun a b=>
 RR (sOp (.box 25 (.const p1)) 0) b fun b c=>
 RR (sOp (.fieldAddr 25 (.const a) 0) 0) c fun c d=>
 RR (sOp (.load 3 (.const c)) 3) d fun c d=>
 RR (sOp (.fieldAddr 25 (.const b) 0) 0) d fun d e=>
 RR (sOp (.load 3 (.const d)) 3) e fun d e=>
 RR (ao .eql 3 false false c d) e fun c d=>
 ((fun e:VW=>ag c true (
 RR (sOp (.fieldAddr 25 (.const a) 1) 0) d fun a d=>
 RR (sOp (.load 3 (.const a)) 3) d fun a d=>
 RR (sOp (.fieldAddr 25 (.const b) 1) 0) d fun b d=>
 RR (sOp (.load 3 (.const b)) 3) d fun b d=>
 RR (ao .eql 3 false false a b) d fun a b=>
 RR (sOp (.pick (.const c) (.const a) (.const (.bool false))) 4) b fun a b=>e a b) (
 RR (sOp (.pick (.const c) (.const undef) (.const (.bool false))) 4) d fun a b=>e a b)) fun c d=>
 ((fun e:VW=>ag c true (
 RR (sOp (.fieldAddr 25 (.const a) 2) 0) d fun a d=>
 RR (sOp (.load 9 (.const a)) 9) d fun a d=>
 RR (sOp (.fieldAddr 25 (.const b) 2) 0) d fun b d=>
 RR (sOp (.load 9 (.const b)) 9) d fun b d=>
 RR (ao .eql 9 false false a b) d fun a b=>
 RR (sOp (.pick (.const c) (.const a) (.const (.bool false))) 4) b fun a b=>e a b) (
 RR (sOp (.pick (.const c) (.const undef) (.const (.bool false))) 4) d fun a b=>e a b)) fun c d=>
 ag c true (
 RR (sOp (.fieldAddr 25 (.const a) 3) 0) d fun a d=>
 RR (sOp (.load 23 (.const a)) 23) d fun a d=>
 RR (sOp (.fieldAddr 25 (.const b) 3) 0) d fun b d=>
 RR (sOp (.load 23 (.const b)) 23) d fun b d=>
 RR (aH (.func (.func 83) #[] #[]) [a,b,(.func (.func 40) #[] #[])]) d fun a b=>
 RR (sOp (.pick (.const c) (.const a) (.const (.bool false))) 4) b fun a b=>
 R (.returned a) b) (
 RR (sOp (.pick (.const c) (.const undef) (.const (.bool false))) 4) d fun a b=>
 R (.returned a) b)))
theorem qh {p0 p1:Value} {w:World} {R:Ending->World->Prop} (h:mW p0 p1 w R):Calls Tryz.prog 40 #[p0,p1] w R:=
  aN .leaf [p0,p1] bh Tryz.func40 (by kernel_rfl) (by kernel_rfl) h


/- loop.example/prologserver/spec.InstanceOf : function 41 -/
def kz (p0 p1:Value) (w:World) (R:Ending->World->Prop):Prop:=
 RR (sOp (.box 25 (.const p0)) 0) w fun a b=>
 RR (sOp (.box 25 (.const p1)) 0) b fun b c=>
 (∃ d:Value->World->Prop,(
 RR (sOp (.load 25 (.const a)) 25) c fun a c=>
 RR (aH (.func (.func 84) #[] #[]) [a]) c fun a c=>
 RR (sOp (.unOp .not 4 (.const a)) 4) c fun a c=>
 ag a false (
 RR (sOp (.load 25 (.const b)) 25) c fun b c=>
 RR (aH (.func (.func 84) #[] #[]) [b]) c fun b c=>
 RR (sOp (.unOp .not 4 (.const b)) 4) c fun b c=>
 RR (sOp (.pick (.const a) (.const (.bool true)) (.const b)) 4) c fun a b=>
 d a b) (
 RR (sOp (.pick (.const a) (.const (.bool true)) (.const undef)) 4) c fun a b=>
 d a b))/\
 ∀ c _ _ _ _ _ _ _:Value,∀ e:World,d c e->
 CondV c (
 R (.returned (.bool false)) e) (
 (∃ c:(Nat->Bool)->Value->Value->Value->Value->Value->World->Prop,c (fun _=>false) (.bool false) undef undef undef undef { e with drawn:=e.drawn+1 }/\(
 (∀ a:Nat->Bool,a 0=false->∀ d e f g h i,c a d e f g h i->
 RR (sOp (.load 25 (.const b)) 25) i fun b h=>
 c (aw a 0) d e f g b h)/\
 (∀ b:Nat->Bool,b 1=false->∀ d e f g h i,c b d e f g h i->
 RR (sOp (.load 25 (.const a)) 25) i fun a g=>
 c (aw b 1) d e f a h g)/\
 (∀ a:Nat->Bool,a 2=false->∀ b d e f g h,c a b d e f g h->
 RR (sOp (.makeSlice 23 (.const (.int .i64 26)) (.const (.int .i64 26))) 23) h fun e h=>
 c (aw a 2) b d e f g h)/\
 (∀ a:Nat->Bool,a 3=false->a 0=true->a 1=true->a 2=true->∀ b d e f g h,c a b d e f g h->
 RR (aH (.func (.func 85) #[] #[]) [g,f,e]) h fun d h=>
 c (aw a 3) b d e f g h)/\
 (∀ a:Nat->Bool,a 4=false->a 3=true->a 3=true->a 0=true->a 1=true->a 2=true->a 3=true->∀ b d e f g h,c a b d e f g h->
 c (aw a 4) d d e f g h)/\
 True)/\
 ∀ a:Nat->Bool,a 4=true->a 3=true->a 2=true->a 1=true->a 0=true->∀ b d e f g h,c a b d e f g h->
 R (.returned b) h)))
theorem m9 {p0 p1:Value} {w:World} {R:Ending->World->Prop} (h:kz p0 p1 w R):Calls Tryz.prog 41 #[p0,p1] w R:=
  aN (.seq none .leaf (.seq none (.seq (some [12]) .leaf .leaf) .leaf)) [p0,p1] bh Tryz.func41 (by kernel_rfl) (by kernel_rfl) h


/- loop.example/prologserver/spec.l1Copy : function 42 -/
def lj (p0:Value) (w:World) (R:Ending->World->Prop):Prop:=
 RR (sOp (.box 25 (.const p0)) 0) w fun a b=>
 RR (sOp (.alloc 25) 0) b fun b c=>
 RR (sOp (.fieldAddr 25 (.const a) 0) 0) c fun c d=>
 RR (sOp (.load 3 (.const c)) 3) d fun c d=>
 RR (sOp (.fieldAddr 25 (.const a) 1) 0) d fun d e=>
 RR (sOp (.load 3 (.const d)) 3) e fun d e=>
 RR (sOp (.fieldAddr 25 (.const a) 2) 0) e fun e f=>
 RR (sOp (.load 9 (.const e)) 9) f fun e f=>
 RR (cK 25 [(0,c),(1,d),(2,e)]) f fun c d=>
 RR (sOp (.alloc 25) 0) d fun d e=>
 RR (sOp (.store 25 (.const d) (.const c)) 0) e fun _ c=>
 (∃ (e:Value->World->Prop) (f:Value->World->Nat),e (.int .i64 0) c/\
 ∀ c _ _ g h i j k l m n o p q _ _ _ _ _:Value,∀ r:World,e c r->
 RR (sOp (.fieldAddr 25 (.const a) 3) 0) r fun s t=>
 RR (sOp (.load 23 (.const s)) 23) t fun s t=>
 RR (aq .len #[23] 3 [false] [s]) t fun s t=>
 RR (ao .lss 3 false false c s) t fun s t=>
 CondV s (
 (∃ b:(Nat->Bool)->Value->Value->Value->Value->Value->Value->Value->Value->Value->Value->Value->World->Prop,b (fun _=>false) g h i j k l m n o p q { t with drawn:=t.drawn+1 }/\(
 (∀ a:Nat->Bool,a 0=false->∀ c e f g h i j k l m n o,b a c e f g h i j k l m n o->
 RR (sOp (.fieldAddr 25 (.const d) 3) 0) o fun d n=>
 b (aw a 0) c e f g h i j k l m d n)/\
 (∀ a:Nat->Bool,a 1=false->a 0=true->∀ c d e f g h i j k l m n,b a c d e f g h i j k l m n->
 RR (sOp (.load 23 (.const m)) 23) n fun l n=>
 b (aw a 1) c d e f g h i j k l m n)/\
 (∀ c:Nat->Bool,c 2=false->∀ d e f g h i j k l m n o,b c d e f g h i j k l m n o->
 RR (sOp (.fieldAddr 25 (.const a) 3) 0) o fun a l=>
 b (aw c 2) d e f g h i j k a m n l)/\
 (∀ a:Nat->Bool,a 3=false->a 2=true->∀ c d e f g h i j k l m n,b a c d e f g h i j k l m n->
 RR (sOp (.load 23 (.const k)) 23) n fun j n=>
 b (aw a 3) c d e f g h i j k l m n)/\
 (∀ a:Nat->Bool,a 4=false->∀ d e f g h i j k l m n o,b a d e f g h i j k l m n o->
 b (aw a 4) d e f g h i c k l m n o)/\
 (∀ a:Nat->Bool,a 5=false->a 3=true->a 4=true->∀ c d e f g h i j k l m n,b a c d e f g h i j k l m n->
 RR (sOp (.indexAddr 23 (.const j) (.const i)) 0) n fun h n=>
 b (aw a 5) c d e f g h i j k l m n)/\
 (∀ a:Nat->Bool,a 6=false->a 5=true->∀ c d e f g h i j k l m n,b a c d e f g h i j k l m n->
 RR (sOp (.load 25 (.const h)) 25) n fun g n=>
 b (aw a 6) c d e f g h i j k l m n)/\
 (∀ a:Nat->Bool,a 7=false->a 6=true->∀ c d e f g h i j k l m n,b a c d e f g h i j k l m n->
 RR (aH (.func (.func 42) #[] #[]) [g]) n fun f n=>
 b (aw a 7) c d e f g h i j k l m n)/\
 (∀ a:Nat->Bool,a 8=false->a 7=true->∀ c d e f g h i j k l m n,b a c d e f g h i j k l m n->
 RR (aW 23 1 [(0,f)]) n fun e n=>
 b (aw a 8) c d e f g h i j k l m n)/\
 (∀ a:Nat->Bool,a 9=false->a 1=true->a 8=true->a 7=true->∀ c d e f g h i j k l m n,b a c d e f g h i j k l m n->
 RR (aq .append #[23,23] 23 [false,false] [l,e]) n fun d n=>
 b (aw a 9) c d e f g h i j k l m n)/\
 (∀ a:Nat->Bool,a 10=false->a 0=true->a 1=true->a 2=true->a 3=true->a 4=true->a 5=true->a 6=true->a 7=true->a 8=true->a 9=true->∀ c e f g h i j k l m n o,b a c e f g h i j k l m n o->
 RR (sOp (.fieldAddr 25 (.const d) 3) 0) o fun c d=>
 b (aw a 10) c e f g h i j k l m n d)/\
 (∀ a:Nat->Bool,a 11=false->a 10=true->a 9=true->a 9=true->a 0=true->a 1=true->a 2=true->a 3=true->a 4=true->a 5=true->a 6=true->a 7=true->a 8=true->a 9=true->∀ c d e f g h i j k l m n,b a c d e f g h i j k l m n->
 RR (sOp (.store 23 (.const c) (.const d)) 0) n fun _ n=>
 b (aw a 11) c d e f g h i j k l m n)/\
 True)/\
 ∀ a:Nat->Bool,a 11=true->a 10=true->a 9=true->a 8=true->a 7=true->a 6=true->a 5=true->a 4=true->a 3=true->a 2=true->a 1=true->a 0=true->∀ d g h i j k l m n o p q,b a d g h i j k l m n o p q->
 RR (ao .add 3 false true c (.int .i64 1)) q fun a b=>
 e a b/\f a b<f c r)) (
 RR (sOp (.load 25 (.const d)) 25) t fun a c=>
 RR (sOp (.store 25 (.const b) (.const a)) 0) c fun _ a=>
 (a4 Tryz.prog 25 b a fun b=>R (.returned b) a)))
theorem lw {p0:Value} {w:World} {R:Ending->World->Prop} (h:lj p0 w R):Calls Tryz.prog 42 #[p0] w R:=
  aN (.seq none .leaf (.seq none .leaf (.seq none (.seq none .leaf (.one (.loop [4] .leaf))) .leaf))) [p0] bh Tryz.func42 (by kernel_rfl) (by kernel_rfl) h


/- loop.example/prologserver/impl.TermValid : function 43 -/
def lR (p0:Value) (w:World) (R:Ending->World->Prop):Prop:=
 RR (sOp (.box 25 (.const p0)) 0) w fun a b=>
 RR (sOp (.alloc 3) 0) b fun b c=>
 RR (sOp (.store 3 (.const b) (.const (.int .i64 0))) 0) c fun _ c=>
 RR (sOp (.load 25 (.const a)) 25) c fun a c=>
 RR (aH (.func (.func 86) #[] #[]) [a,(.int .i64 1),b]) c fun a b=>
 R (.returned a) b
theorem nQ {p0:Value} {w:World} {R:Ending->World->Prop} (h:lR p0 w R):Calls Tryz.prog 43 #[p0] w R:=
  aN .leaf [p0] bh Tryz.func43 (by kernel_rfl) (by kernel_rfl) h


/- loop.example/prologserver/impl.instance : function 44 -/
def mR (p0 p1 p2:Value) (w:World) (R:Ending->World->Prop):Prop:=
 RR (sOp (.box 25 (.const p0)) 0) w fun a b=>
 RR (sOp (.box 25 (.const p1)) 0) b fun b c=>
 RR (sOp (.fieldAddr 25 (.const b) 0) 0) c fun c d=>
 RR (sOp (.load 3 (.const c)) 3) d fun c d=>
 RR (ao .eql 3 false true c (.int .i64 1)) d fun c d=>
 CondV c (
 RR (sOp (.fieldAddr 25 (.const b) 1) 0) d fun c d=>
 RR (sOp (.load 3 (.const c)) 3) d fun c d=>
 RR (sOp (.lookup 59 (.const p2) (.const c) true) 85) d fun c d=>
 RR (sOp (.extract (.const c) 0) 25) d fun d e=>
 RR (sOp (.extract (.const c) 1) 4) e fun c e=>
 RR (sOp (.alloc 25) 0) e fun e f=>
 RR (sOp (.store 25 (.const e) (.const d)) 0) f fun _ d=>
 RR (sOp (.unOp .not 4 (.const c)) 4) d fun c d=>
 CondV c (
 RR (sOp (.fieldAddr 25 (.const b) 1) 0) d fun b c=>
 RR (sOp (.load 3 (.const b)) 3) c fun b c=>
 RR (sOp (.load 25 (.const a)) 25) c fun a c=>
 RR (sOp (.mapUpdate 59 (.const p2) (.const b) (.const a)) 0) c fun _ a=>
 R (.returned (.bool true)) a) (
 RR (sOp (.load 25 (.const e)) 25) d fun b c=>
 RR (sOp (.load 25 (.const a)) 25) c fun a c=>
 RR (aH (.func (.func 40) #[] #[]) [b,a]) c fun a b=>
 R (.returned a) b)) (
 (∃ c:Value->World->Prop,(
 RR (sOp (.fieldAddr 25 (.const a) 0) 0) d fun d e=>
 RR (sOp (.load 3 (.const d)) 3) e fun d e=>
 RR (sOp (.fieldAddr 25 (.const b) 0) 0) e fun e f=>
 RR (sOp (.load 3 (.const e)) 3) f fun e f=>
 RR (ao .neq 3 false false d e) f fun d e=>
 ((fun c:VW=>ag d false (
 RR (sOp (.fieldAddr 25 (.const a) 1) 0) e fun a e=>
 RR (sOp (.load 3 (.const a)) 3) e fun a e=>
 RR (sOp (.fieldAddr 25 (.const b) 1) 0) e fun b e=>
 RR (sOp (.load 3 (.const b)) 3) e fun b e=>
 RR (ao .neq 3 false false a b) e fun a b=>
 RR (sOp (.pick (.const d) (.const (.bool true)) (.const a)) 4) b fun a b=>c a b) (
 RR (sOp (.pick (.const d) (.const (.bool true)) (.const undef)) 4) e fun a b=>c a b)) fun d e=>
 ((fun c:VW=>ag d false (
 RR (sOp (.fieldAddr 25 (.const a) 2) 0) e fun a e=>
 RR (sOp (.load 9 (.const a)) 9) e fun a e=>
 RR (sOp (.fieldAddr 25 (.const b) 2) 0) e fun b e=>
 RR (sOp (.load 9 (.const b)) 9) e fun b e=>
 RR (ao .neq 9 false false a b) e fun a b=>
 RR (sOp (.pick (.const d) (.const (.bool true)) (.const a)) 4) b fun a b=>c a b) (
 RR (sOp (.pick (.const d) (.const (.bool true)) (.const undef)) 4) e fun a b=>c a b)) fun d e=>
 ag d false (
 RR (sOp (.fieldAddr 25 (.const a) 3) 0) e fun a e=>
 RR (sOp (.load 23 (.const a)) 23) e fun a e=>
 RR (aq .len #[23] 3 [false] [a]) e fun a e=>
 RR (sOp (.fieldAddr 25 (.const b) 3) 0) e fun b e=>
 RR (sOp (.load 23 (.const b)) 23) e fun b e=>
 RR (aq .len #[23] 3 [false] [b]) e fun b e=>
 RR (ao .neq 3 false false a b) e fun a b=>
 RR (sOp (.pick (.const d) (.const (.bool true)) (.const a)) 4) b fun a b=>
 c a b) (
 RR (sOp (.pick (.const d) (.const (.bool true)) (.const undef)) 4) e fun a b=>
 c a b))))/\
 ∀ d _ _ _ _ _ _ _ _ _ _ _ _ _ _ _ _ _ _ _ _ _ _ _ _ _ _ _:Value,∀ e:World,c d e->
 CondV d (
 R (.returned (.bool false)) e) (
 RR (sOp (.fieldAddr 25 (.const b) 3) 0) e fun c d=>
 RR (sOp (.load 23 (.const c)) 23) d fun c d=>
 RR (aq .len #[23] 3 [false] [c]) d fun c d=>
 (∃ (e:Value->World->Prop) (f:Value->World->Nat),e (.int .i64 0) d/\
 ∀ d _ _ g h i j k l m n o p q r s _ _ _:Value,∀ t:World,e d t->
 RR (ao .lss 3 false false d c) t fun c u=>
 CondV c (
 (∃ c:(Nat->Bool)->Value->Value->Value->Value->Value->Value->Value->Value->Value->Value->Value->Value->Value->World->Prop,c (fun _=>false) g h i j k l m n o p q r s { u with drawn:=u.drawn+1 }/\(
 (∀ b:Nat->Bool,b 0=false->∀ d e f g h i j k l m n o p q,c b d e f g h i j k l m n o p q->
 RR (sOp (.fieldAddr 25 (.const a) 3) 0) q fun a p=>
 c (aw b 0) d e f g h i j k l m n o a p)/\
 (∀ a:Nat->Bool,a 1=false->a 0=true->∀ b d e f g h i j k l m n o p,c a b d e f g h i j k l m n o p->
 RR (sOp (.load 23 (.const o)) 23) p fun n p=>
 c (aw a 1) b d e f g h i j k l m n o p)/\
 (∀ a:Nat->Bool,a 2=false->∀ b e f g h i j k l m n o p q,c a b e f g h i j k l m n o p q->
 c (aw a 2) b e f g h i j k l m d o p q)/\
 (∀ a:Nat->Bool,a 3=false->a 1=true->a 2=true->∀ b d e f g h i j k l m n o p,c a b d e f g h i j k l m n o p->
 RR (sOp (.indexAddr 23 (.const n) (.const m)) 0) p fun l p=>
 c (aw a 3) b d e f g h i j k l m n o p)/\
 (∀ a:Nat->Bool,a 4=false->a 3=true->∀ b d e f g h i j k l m n o p,c a b d e f g h i j k l m n o p->
 RR (sOp (.load 25 (.const l)) 25) p fun k p=>
 c (aw a 4) b d e f g h i j k l m n o p)/\
 (∀ a:Nat->Bool,a 5=false->∀ d e f g h i j k l m n o p q,c a d e f g h i j k l m n o p q->
 RR (sOp (.fieldAddr 25 (.const b) 3) 0) q fun b k=>
 c (aw a 5) d e f g h i j b l m n o p k)/\
 (∀ a:Nat->Bool,a 6=false->a 5=true->∀ b d e f g h i j k l m n o p,c a b d e f g h i j k l m n o p->
 RR (sOp (.load 23 (.const j)) 23) p fun i p=>
 c (aw a 6) b d e f g h i j k l m n o p)/\
 (∀ a:Nat->Bool,a 7=false->∀ b e f g h i j k l m n o p q,c a b e f g h i j k l m n o p q->
 c (aw a 7) b e f g h d j k l m n o p q)/\
 (∀ a:Nat->Bool,a 8=false->a 6=true->a 7=true->∀ b d e f g h i j k l m n o p,c a b d e f g h i j k l m n o p->
 RR (sOp (.indexAddr 23 (.const i) (.const h)) 0) p fun g p=>
 c (aw a 8) b d e f g h i j k l m n o p)/\
 (∀ a:Nat->Bool,a 9=false->a 8=true->∀ b d e f g h i j k l m n o p,c a b d e f g h i j k l m n o p->
 RR (sOp (.load 25 (.const g)) 25) p fun f p=>
 c (aw a 9) b d e f g h i j k l m n o p)/\
 (∀ a:Nat->Bool,a 10=false->∀ b d e f g h i j k l m n o p,c a b d e f g h i j k l m n o p->
 c (aw a 10) b d p2 f g h i j k l m n o p)/\
 (∀ a:Nat->Bool,a 11=false->a 4=true->a 9=true->a 10=true->∀ b d e f g h i j k l m n o p,c a b d e f g h i j k l m n o p->
 RR (aH (.func (.func 44) #[] #[]) [k,f,e]) p fun d p=>
 c (aw a 11) b d e f g h i j k l m n o p)/\
 (∀ a:Nat->Bool,a 12=false->a 11=true->∀ b d e f g h i j k l m n o p,c a b d e f g h i j k l m n o p->
 RR (sOp (.unOp .not 4 (.const d)) 4) p fun b p=>
 c (aw a 12) b d e f g h i j k l m n o p)/\
 True)/\
 ∀ a:Nat->Bool,a 12=true->a 11=true->a 10=true->a 9=true->a 8=true->a 7=true->a 6=true->a 5=true->a 4=true->a 3=true->a 2=true->a 1=true->a 0=true->∀ b g h i j k l m n o p q r s,c a b g h i j k l m n o p q r s->
 CondV b (
 R (.returned (.bool false)) s) (
 RR (ao .add 3 false true d (.int .i64 1)) s fun a b=>
 e a b/\f a b<f d t))) (
 R (.returned (.bool true)) u)))))
theorem qp {p0 p1 p2:Value} {w:World} {R:Ending->World->Prop} (h:mR p0 p1 p2 w R):Calls Tryz.prog 44 #[p0,p1,p2] w R:=
  aN (.seq none .leaf (.seq none .leaf (.seq none (.seq (some [56]) .leaf .leaf) (.seq none (.seq none .leaf (.one (.loop [60] .leaf))) .leaf)))) [p0,p1,p2] bh Tryz.func44 (by kernel_rfl) (by kernel_rfl) h


/- loop.example/prologserver/spec.ProgramValid : function 50 -/
def iD (p0:Value) (w:World) (R:Ending->World->Prop):Prop:=
 (∃ (a:Value->World->Prop) (b:Value->World->Nat),a (.int .i64 0) w/\
 ∀ c _ _ _ _ _ _ _ _ _ _ _ _ _ _ _ _ _:Value,∀ d:World,a c d->
 (∃ e:Value->World->Prop,(
 RR (aq .len #[32] 3 [false] [p0]) d fun a b=>
 RR (ao .lss 3 false false c a) b fun a b=>
 ag a true (
 RR (ao .leq 3 false true c (.int .i64 20)) b fun b c=>
 RR (sOp (.pick (.const a) (.const b) (.const (.bool false))) 4) c fun a b=>
 e a b) (
 RR (sOp (.pick (.const a) (.const undef) (.const (.bool false))) 4) b fun a b=>
 e a b))/\
 ∀ f _ _ _ _ _ _ _:Value,∀ g:World,e f g->
 CondV f (
 RR (sOp (.indexAddr 32 (.const p0) (.const c)) 0) g fun e f=>
 RR (sOp (.load 39 (.const e)) 39) f fun e f=>
 RR (aH (.func (.func 96) #[] #[]) [e]) f fun e f=>
 RR (sOp (.unOp .not 4 (.const e)) 4) f fun e f=>
 CondV e (
 R (.returned (.bool false)) f) (
 RR (ao .add 3 false true c (.int .i64 1)) f fun e f=>
 a e f/\b e f<b c d)) (
 RR (aq .len #[32] 3 [false] [p0]) g fun a b=>
 RR (ao .leq 3 false true a (.int .i64 20)) b fun a b=>
 R (.returned a) b)))
theorem lJ {p0:Value} {w:World} {R:Ending->World->Prop} (h:iD p0 w R):Calls Tryz.prog 50 #[p0] w R:=
  aN (.seq none .leaf (.seq none (.seq none .leaf (.one (.loop [3] (.seq none (.seq (some [11]) .leaf .leaf) .leaf)))) .leaf)) [p0] bh Tryz.func50 (by kernel_rfl) (by kernel_rfl) h


/- loop.example/prologserver/spec.l16Clause : function 51 -/
def kT (p0:Value) (w:World) (R:Ending->World->Prop):Prop:=
 RR (sOp (.box 39 (.const p0)) 0) w fun a b=>
 (∃ c:Value->World->Prop,(
 RR (sOp (.fieldAddr 39 (.const a) 0) 0) b fun b d=>
 RR (sOp (.load 25 (.const b)) 25) d fun b d=>
 RR (aH (.func (.func 97) #[] #[]) [b]) d fun b d=>
 RR (sOp (.unOp .not 4 (.const b)) 4) d fun b d=>
 ag b false (
 RR (sOp (.fieldAddr 39 (.const a) 1) 0) d fun a d=>
 RR (sOp (.load 23 (.const a)) 23) d fun a d=>
 RR (aq .len #[23] 3 [false] [a]) d fun a d=>
 RR (ao .gtr 3 false true a (.int .i64 3)) d fun a d=>
 RR (sOp (.pick (.const b) (.const (.bool true)) (.const a)) 4) d fun a b=>
 c a b) (
 RR (sOp (.pick (.const b) (.const (.bool true)) (.const undef)) 4) d fun a b=>
 c a b))/\
 ∀ b _ _ _ _ _ _ _ _ _:Value,∀ d:World,c b d->
 CondV b (
 R (.returned (.bool false)) d) (
 RR (aW 71 0 []) d fun b c=>
 (∃ (d:Value->Value->World->Prop) (e:Value->Value->World->Nat),d (.int .i64 0) b c/\
 ∀ b _ _ c _ _ _ _ _ _ _ _ _ _ _ _ _ _ _ _ _ _ _ _:Value,∀ f:World,d b c f->
 RR (sOp (.fieldAddr 39 (.const a) 1) 0) f fun g h=>
 RR (sOp (.load 23 (.const g)) 23) h fun g h=>
 RR (aq .len #[23] 3 [false] [g]) h fun g h=>
 RR (ao .lss 3 false false b g) h fun g h=>
 CondV g (
 RR (sOp (.fieldAddr 39 (.const a) 1) 0) h fun g h=>
 RR (sOp (.load 23 (.const g)) 23) h fun g h=>
 RR (sOp (.indexAddr 23 (.const g) (.const b)) 0) h fun g h=>
 RR (sOp (.load 25 (.const g)) 25) h fun g h=>
 RR (aH (.func (.func 97) #[] #[]) [g]) h fun g h=>
 RR (sOp (.unOp .not 4 (.const g)) 4) h fun g h=>
 CondV g (
 R (.returned (.bool false)) h) (
 RR (sOp (.fieldAddr 39 (.const a) 1) 0) h fun a g=>
 RR (sOp (.load 23 (.const a)) 23) g fun a g=>
 RR (sOp (.indexAddr 23 (.const a) (.const b)) 0) g fun a g=>
 RR (sOp (.load 25 (.const a)) 25) g fun a g=>
 RR (aH (.func (.func 98) #[] #[]) [c,a]) g fun a g=>
 RR (ao .add 3 false true b (.int .i64 1)) g fun g h=>
 d g a h/\e g a h<e b c f)) (
 RR (sOp (.fieldAddr 39 (.const a) 0) 0) h fun a b=>
 RR (sOp (.load 25 (.const a)) 25) b fun a b=>
 RR (aH (.func (.func 98) #[] #[]) [(Value.slice none 0 0),a]) b fun a b=>
 (∃ (d:Value->World->Prop) (e:Value->World->Nat),d (.int .i64 0) b/\
 ∀ b _ _ _ _ _ _ _ _ _ _ _ _ _ _:Value,∀ f:World,d b f->
 RR (aq .len #[71] 3 [false] [a]) f fun g h=>
 RR (ao .lss 3 false false b g) h fun g h=>
 CondV g (
 RR (sOp (.indexAddr 71 (.const a) (.const b)) 0) h fun a g=>
 RR (sOp (.load 3 (.const a)) 3) g fun a g=>
 RR (aH (.func (.func 99) #[] #[]) [c,a]) g fun a c=>
 RR (sOp (.unOp .not 4 (.const a)) 4) c fun a c=>
 CondV a (
 R (.returned (.bool false)) c) (
 RR (ao .add 3 false true b (.int .i64 1)) c fun a c=>
 d a c/\e a c<e b f)) (
 R (.returned (.bool true)) h))))))
theorem nZ {p0:Value} {w:World} {R:Ending->World->Prop} (h:kT p0 w R):Calls Tryz.prog 51 #[p0] w R:=
  aN (.seq none .leaf (.seq none (.seq (some [16]) .leaf .leaf) (.seq none .leaf (.seq none (.seq none .leaf (.one (.loop [4,3] .leaf))) (.seq none .leaf (.seq none (.seq none .leaf (.one (.loop [6] .leaf))) .leaf)))))) [p0] bh Tryz.func51 (by kernel_rfl) (by kernel_rfl) h


/- loop.example/prologserver/spec.l16Stage : function 52 -/
def mG (p0 p1:Value) (w:World) (R:Ending->World->Prop):Prop:=
 RR (aW 23 0 []) w fun a b=>
 (∃ (c:Value->Value->World->Prop) (d:Value->Value->World->Nat),c (.int .i64 0) a b/\
 ∀ a _ _ b _ _ _ _ _ _ _ _ _ _ _ _ _ _ _ _ _ _ _ _ _ _:Value,∀ e:World,c a b e->
 RR (ao .lss 3 false false a p1) e fun f g=>
 CondV f (
 RR (aH (.func (.func 100) #[] #[]) [p0,b]) g fun f g=>
 (∃ h:Value->World->Prop,(
 RR (aq .len #[23] 3 [false] [f]) g fun a c=>
 RR (aq .len #[23] 3 [false] [b]) c fun c d=>
 RR (ao .eql 3 false false a c) d fun a c=>
 ag a false (
 RR (aq .len #[23] 3 [false] [b]) c fun b c=>
 RR (ao .gtr 3 false true b (.int .i64 60)) c fun b c=>
 RR (sOp (.pick (.const a) (.const (.bool true)) (.const b)) 4) c fun a b=>
 h a b) (
 RR (sOp (.pick (.const a) (.const (.bool true)) (.const undef)) 4) c fun a b=>
 h a b))/\
 ∀ g _ _ _ _ _ _ _ _ _:Value,∀ i:World,h g i->
 CondV g (
 R (.returned (.tuple #[b,a])) i) (
 RR (ao .add 3 false true a (.int .i64 1)) i fun g h=>
 c g f h/\d g f h<d a b e))) (
 R (.returned (.tuple #[b,p1])) g))
theorem pK {p0 p1:Value} {w:World} {R:Ending->World->Prop} (h:mG p0 p1 w R):Calls Tryz.prog 52 #[p0,p1] w R:=
  aN (.seq none .leaf (.seq none .leaf (.seq none (.seq none .leaf (.one (.loop [7,6] (.seq none .leaf (.seq none (.one (.seq none .leaf (.seq none (.seq (some [27]) .leaf .leaf) .leaf))) .leaf))))) .leaf))) [p0,p1] bh Tryz.func52 (by kernel_rfl) (by kernel_rfl) h


/- slices.Contains[[]string,string] : function 55 -/
def gx (p0 p1:Value) (w:World) (R:Ending->World->Prop):Prop:=
 RR (aH (.func (.func 104) #[] #[]) [p0,p1]) w fun a b=>
 RR (ao .geq 3 false true a (.int .i64 0)) b fun a b=>
 R (.returned a) b
theorem jm {p0 p1:Value} {w:World} {R:Ending->World->Prop} (h:gx p0 p1 w R):Calls Tryz.prog 55 #[p0,p1] w R:=
  aN .leaf [p0,p1] bh Tryz.func55 (by kernel_rfl) (by kernel_rfl) h


/- slices.ContainsFunc[[]loop.example/prologserver/impl.Term,loop.example/prologserver/impl.Term] : function 57 -/
def fT (p0 p1:Value) (w:World) (R:Ending->World->Prop):Prop:=
 RR (aH (.func (.func 82) #[] #[]) [p0,p1]) w fun a b=>
 RR (ao .geq 3 false true a (.int .i64 0)) b fun a b=>
 R (.returned a) b
theorem iy {p0 p1:Value} {w:World} {R:Ending->World->Prop} (h:fT p0 p1 w R):Calls Tryz.prog 57 #[p0,p1] w R:=
  aN .leaf [p0,p1] bh Tryz.func57 (by kernel_rfl) (by kernel_rfl) h


/- (*loop.example/prologserver/spec.l18Rd).num : function 61 -/
def ld (p0 p1:Value) (w:World) (R:Ending->World->Prop):Prop:=
 RR (aq .len #[71] 3 [false] [p1]) w fun a b=>
 RR (aH (.func (.func 69) #[] #[]) [p0,a]) b fun a b=>
 RR (sOp (.indexAddr 71 (.const p1) (.const a)) 0) b fun a b=>
 RR (sOp (.load 3 (.const a)) 3) b fun a b=>
 R (.returned a) b
theorem pm {p0 p1:Value} {w:World} {R:Ending->World->Prop} (h:ld p0 p1 w R):Calls Tryz.prog 61 #[p0,p1] w R:=
  aN .leaf [p0,p1] bh Tryz.func61 (by kernel_rfl) (by kernel_rfl) h


/- loop.example/prologserver/spec.l16Copy : function 62 -/
def pr (p0:Value) (w:World) (R:Ending->World->Prop):Prop:=
 RR (aW 23 0 []) w fun a b=>
 (∃ (c:Value->Value->World->Prop) (d:Value->Value->World->Nat),c (.int .i64 0) a b/\
 ∀ a _ _ b _ _ _ _ _ _ _ _ _ _ _ _:Value,∀ e:World,c a b e->
 RR (aq .len #[23] 3 [false] [p0]) e fun f g=>
 RR (ao .lss 3 false false a f) g fun f g=>
 CondV f (
 RR (sOp (.indexAddr 23 (.const p0) (.const a)) 0) g fun f g=>
 RR (sOp (.load 25 (.const f)) 25) g fun f g=>
 RR (aH (.func (.func 42) #[] #[]) [f]) g fun f g=>
 RR (aW 23 1 [(0,f)]) g fun f g=>
 RR (aq .append #[23,23] 23 [false,false] [b,f]) g fun f g=>
 RR (ao .add 3 false true a (.int .i64 1)) g fun g h=>
 c g f h/\d g f h<d a b e) (
 R (.returned b) g))
theorem sG {p0:Value} {w:World} {R:Ending->World->Prop} (h:pr p0 w R):Calls Tryz.prog 62 #[p0] w R:=
  aN (.seq none .leaf (.seq none .leaf (.seq none (.seq none .leaf (.one (.loop [4,3] .leaf))) .leaf))) [p0] bh Tryz.func62 (by kernel_rfl) (by kernel_rfl) h


/- (*loop.example/prologserver/spec.l18Rd).pick : function 69 -/
def kB (p0 p1:Value) (w:World) (R:Ending->World->Prop):Prop:=
 RR (sOp (.nilCheck (.const p0)) 0) w fun a b=>
 RR (sOp (.fieldAddr 78 (.const a) 1) 0) b fun a b=>
 RR (sOp (.load 3 (.const a)) 3) b fun a b=>
 RR (ao .add 3 false true a (.int .i64 1)) b fun a b=>
 RR (sOp (.nilCheck (.const p0)) 0) b fun b c=>
 RR (sOp (.fieldAddr 78 (.const b) 1) 0) c fun b c=>
 RR (sOp (.store 3 (.const b) (.const a)) 0) c fun _ a=>
 (∃ b:Value->World->Prop,(
 RR (ao .lss 3 false true p1 (.int .i64 1)) a fun a c=>
 ag a false (
 RR (sOp (.nilCheck (.const p0)) 0) c fun c d=>
 RR (sOp (.fieldAddr 78 (.const c) 0) 0) d fun c d=>
 RR (sOp (.load 22 (.const c)) 22) d fun c d=>
 RR (aq .len #[22] 3 [false] [c]) d fun c d=>
 RR (ao .eql 3 false true c (.int .i64 0)) d fun c d=>
 RR (sOp (.pick (.const a) (.const (.bool true)) (.const c)) 4) d fun a c=>
 b a c) (
 RR (sOp (.pick (.const a) (.const (.bool true)) (.const undef)) 4) c fun a c=>
 b a c))/\
 ∀ a _ _ _ _ _ _ _ _ _:Value,∀ c:World,b a c->
 CondV a (
 R (.returned (.int .i64 0)) c) (
 RR (sOp (.nilCheck (.const p0)) 0) c fun a b=>
 RR (sOp (.fieldAddr 78 (.const a) 1) 0) b fun a b=>
 RR (sOp (.load 3 (.const a)) 3) b fun a b=>
 RR (ao .sub 3 false true a (.int .i64 1)) b fun a b=>
 RR (sOp (.nilCheck (.const p0)) 0) b fun b c=>
 RR (sOp (.fieldAddr 78 (.const b) 0) 0) c fun b c=>
 RR (sOp (.load 22 (.const b)) 22) c fun b c=>
 RR (aq .len #[22] 3 [false] [b]) c fun b c=>
 RR (ao .lss 3 false false a b) c fun b c=>
 CondV b (
 RR (sOp (.nilCheck (.const p0)) 0) c fun b c=>
 RR (sOp (.fieldAddr 78 (.const b) 0) 0) c fun b c=>
 RR (sOp (.load 22 (.const b)) 22) c fun b c=>
 RR (sOp (.indexAddr 22 (.const b) (.const a)) 0) c fun a b=>
 RR (sOp (.load 5 (.const a)) 5) b fun a b=>
 RR (sOp (.convert 5 3 (.const a)) 3) b fun a b=>
 RR (ao .rem 3 false false a p1) b fun a b=>
 R (.returned a) b) (
 (∃ b:(Nat->Bool)->Value->Value->Value->Value->Value->Value->Value->Value->Value->Value->Value->Value->Value->Value->Value->Value->Value->Value->Value->Value->Value->Value->Value->Value->Value->Value->Value->Value->Value->Value->Value->Value->Value->Value->Value->Value->Value->Value->Value->Value->Value->Value->Value->Value->Value->Value->World->Prop,b (fun _=>false) undef undef undef undef undef undef undef undef undef undef undef undef undef undef undef undef undef undef undef undef undef undef undef undef undef undef undef undef undef undef undef undef undef undef undef undef undef undef undef undef undef undef undef undef undef undef { c with drawn:=c.drawn+1 }/\(
 (∀ a:Nat->Bool,a 0=false->∀ c d e f g h i j k l m n o p q r s t u v x y z A B C D E F G H I J K L M N O P Q S T U V W X Y,b a c d e f g h i j k l m n o p q r s t u v x y z A B C D E F G H I J K L M N O P Q S T U V W X Y->
 b (aw a 0) c d e f g h i j k l m n o p q r s t u v x y z A B C D E F G H I J K L M N O P Q S T U V W p0 Y)/\
 (∀ a:Nat->Bool,a 1=false->a 0=true->∀ c d e f g h i j k l m n o p q r s t u v x y z A B C D E F G H I J K L M N O P Q S T U V W X Y,b a c d e f g h i j k l m n o p q r s t u v x y z A B C D E F G H I J K L M N O P Q S T U V W X Y->
 RR (sOp (.nilCheck (.const X)) 0) Y fun W Y=>
 b (aw a 1) c d e f g h i j k l m n o p q r s t u v x y z A B C D E F G H I J K L M N O P Q S T U V W X Y)/\
 (∀ a:Nat->Bool,a 2=false->a 1=true->∀ c d e f g h i j k l m n o p q r s t u v x y z A B C D E F G H I J K L M N O P Q S T U V W X Y,b a c d e f g h i j k l m n o p q r s t u v x y z A B C D E F G H I J K L M N O P Q S T U V W X Y->
 RR (sOp (.fieldAddr 78 (.const W) 0) 0) Y fun V Y=>
 b (aw a 2) c d e f g h i j k l m n o p q r s t u v x y z A B C D E F G H I J K L M N O P Q S T U V W X Y)/\
 (∀ a:Nat->Bool,a 3=false->a 2=true->∀ c d e f g h i j k l m n o p q r s t u v x y z A B C D E F G H I J K L M N O P Q S T U V W X Y,b a c d e f g h i j k l m n o p q r s t u v x y z A B C D E F G H I J K L M N O P Q S T U V W X Y->
 RR (sOp (.load 22 (.const V)) 22) Y fun U Y=>
 b (aw a 3) c d e f g h i j k l m n o p q r s t u v x y z A B C D E F G H I J K L M N O P Q S T U V W X Y)/\
 (∀ c:Nat->Bool,c 4=false->∀ d e f g h i j k l m n o p q r s t u v x y z A B C D E F G H I J K L M N O P Q S T U V W X Y Z,b c d e f g h i j k l m n o p q r s t u v x y z A B C D E F G H I J K L M N O P Q S T U V W X Y Z->
 b (aw c 4) d e f g h i j k l m n o p q r s t u v x y z A B C D E F G H I J K L M N O P Q S T a V W X Y Z)/\
 (∀ a:Nat->Bool,a 5=false->∀ c d e f g h i j k l m n o p q r s t u v x y z A B C D E F G H I J K L M N O P Q S T U V W X Y,b a c d e f g h i j k l m n o p q r s t u v x y z A B C D E F G H I J K L M N O P Q S T U V W X Y->
 b (aw a 5) c d e f g h i j k l m n o p q r s t u v x y z A B C D E F G H I J K L M N O P Q p0 T U V W X Y)/\
 (∀ a:Nat->Bool,a 6=false->a 5=true->∀ c d e f g h i j k l m n o p q r s t u v x y z A B C D E F G H I J K L M N O P Q S T U V W X Y,b a c d e f g h i j k l m n o p q r s t u v x y z A B C D E F G H I J K L M N O P Q S T U V W X Y->
 RR (sOp (.nilCheck (.const S)) 0) Y fun Q Y=>
 b (aw a 6) c d e f g h i j k l m n o p q r s t u v x y z A B C D E F G H I J K L M N O P Q S T U V W X Y)/\
 (∀ a:Nat->Bool,a 7=false->a 6=true->∀ c d e f g h i j k l m n o p q r s t u v x y z A B C D E F G H I J K L M N O P Q S T U V W X Y,b a c d e f g h i j k l m n o p q r s t u v x y z A B C D E F G H I J K L M N O P Q S T U V W X Y->
 RR (sOp (.fieldAddr 78 (.const Q) 0) 0) Y fun P Y=>
 b (aw a 7) c d e f g h i j k l m n o p q r s t u v x y z A B C D E F G H I J K L M N O P Q S T U V W X Y)/\
 (∀ a:Nat->Bool,a 8=false->a 7=true->∀ c d e f g h i j k l m n o p q r s t u v x y z A B C D E F G H I J K L M N O P Q S T U V W X Y,b a c d e f g h i j k l m n o p q r s t u v x y z A B C D E F G H I J K L M N O P Q S T U V W X Y->
 RR (sOp (.load 22 (.const P)) 22) Y fun O Y=>
 b (aw a 8) c d e f g h i j k l m n o p q r s t u v x y z A B C D E F G H I J K L M N O P Q S T U V W X Y)/\
 (∀ a:Nat->Bool,a 9=false->a 8=true->∀ c d e f g h i j k l m n o p q r s t u v x y z A B C D E F G H I J K L M N O P Q S T U V W X Y,b a c d e f g h i j k l m n o p q r s t u v x y z A B C D E F G H I J K L M N O P Q S T U V W X Y->
 RR (aq .len #[22] 3 [false] [O]) Y fun N Y=>
 b (aw a 9) c d e f g h i j k l m n o p q r s t u v x y z A B C D E F G H I J K L M N O P Q S T U V W X Y)/\
 (∀ a:Nat->Bool,a 10=false->a 4=true->a 9=true->∀ c d e f g h i j k l m n o p q r s t u v x y z A B C D E F G H I J K L M N O P Q S T U V W X Y,b a c d e f g h i j k l m n o p q r s t u v x y z A B C D E F G H I J K L M N O P Q S T U V W X Y->
 RR (ao .rem 3 false false T N) Y fun M Y=>
 b (aw a 10) c d e f g h i j k l m n o p q r s t u v x y z A B C D E F G H I J K L M N O P Q S T U V W X Y)/\
 (∀ a:Nat->Bool,a 11=false->a 3=true->a 10=true->∀ c d e f g h i j k l m n o p q r s t u v x y z A B C D E F G H I J K L M N O P Q S T U V W X Y,b a c d e f g h i j k l m n o p q r s t u v x y z A B C D E F G H I J K L M N O P Q S T U V W X Y->
 RR (sOp (.indexAddr 22 (.const U) (.const M)) 0) Y fun L Y=>
 b (aw a 11) c d e f g h i j k l m n o p q r s t u v x y z A B C D E F G H I J K L M N O P Q S T U V W X Y)/\
 (∀ a:Nat->Bool,a 12=false->a 11=true->∀ c d e f g h i j k l m n o p q r s t u v x y z A B C D E F G H I J K L M N O P Q S T U V W X Y,b a c d e f g h i j k l m n o p q r s t u v x y z A B C D E F G H I J K L M N O P Q S T U V W X Y->
 RR (sOp (.load 5 (.const L)) 5) Y fun K Y=>
 b (aw a 12) c d e f g h i j k l m n o p q r s t u v x y z A B C D E F G H I J K L M N O P Q S T U V W X Y)/\
 (∀ a:Nat->Bool,a 13=false->a 12=true->∀ c d e f g h i j k l m n o p q r s t u v x y z A B C D E F G H I J K L M N O P Q S T U V W X Y,b a c d e f g h i j k l m n o p q r s t u v x y z A B C D E F G H I J K L M N O P Q S T U V W X Y->
 RR (sOp (.convert 5 3 (.const K)) 3) Y fun J Y=>
 b (aw a 13) c d e f g h i j k l m n o p q r s t u v x y z A B C D E F G H I J K L M N O P Q S T U V W X Y)/\
 (∀ a:Nat->Bool,a 14=false->a 13=true->∀ c d e f g h i j k l m n o p q r s t u v x y z A B C D E F G H I J K L M N O P Q S T U V W X Y,b a c d e f g h i j k l m n o p q r s t u v x y z A B C D E F G H I J K L M N O P Q S T U V W X Y->
 RR (ao .mul 3 false true J (.int .i64 131)) Y fun I Y=>
 b (aw a 14) c d e f g h i j k l m n o p q r s t u v x y z A B C D E F G H I J K L M N O P Q S T U V W X Y)/\
 (∀ a:Nat->Bool,a 15=false->∀ c d e f g h i j k l m n o p q r s t u v x y z A B C D E F G H I J K L M N O P Q S T U V W X Y,b a c d e f g h i j k l m n o p q r s t u v x y z A B C D E F G H I J K L M N O P Q S T U V W X Y->
 b (aw a 15) c d e f g h i j k l m n o p q r s t u v x y z A B C D E F G p0 I J K L M N O P Q S T U V W X Y)/\
 (∀ a:Nat->Bool,a 16=false->a 15=true->∀ c d e f g h i j k l m n o p q r s t u v x y z A B C D E F G H I J K L M N O P Q S T U V W X Y,b a c d e f g h i j k l m n o p q r s t u v x y z A B C D E F G H I J K L M N O P Q S T U V W X Y->
 RR (sOp (.nilCheck (.const H)) 0) Y fun G Y=>
 b (aw a 16) c d e f g h i j k l m n o p q r s t u v x y z A B C D E F G H I J K L M N O P Q S T U V W X Y)/\
 (∀ a:Nat->Bool,a 17=false->a 16=true->∀ c d e f g h i j k l m n o p q r s t u v x y z A B C D E F G H I J K L M N O P Q S T U V W X Y,b a c d e f g h i j k l m n o p q r s t u v x y z A B C D E F G H I J K L M N O P Q S T U V W X Y->
 RR (sOp (.fieldAddr 78 (.const G) 0) 0) Y fun F Y=>
 b (aw a 17) c d e f g h i j k l m n o p q r s t u v x y z A B C D E F G H I J K L M N O P Q S T U V W X Y)/\
 (∀ a:Nat->Bool,a 18=false->a 17=true->∀ c d e f g h i j k l m n o p q r s t u v x y z A B C D E F G H I J K L M N O P Q S T U V W X Y,b a c d e f g h i j k l m n o p q r s t u v x y z A B C D E F G H I J K L M N O P Q S T U V W X Y->
 RR (sOp (.load 22 (.const F)) 22) Y fun E Y=>
 b (aw a 18) c d e f g h i j k l m n o p q r s t u v x y z A B C D E F G H I J K L M N O P Q S T U V W X Y)/\
 (∀ c:Nat->Bool,c 19=false->∀ d e f g h i j k l m n o p q r s t u v x y z A B C D E F G H I J K L M N O P Q S T U V W X Y Z,b c d e f g h i j k l m n o p q r s t u v x y z A B C D E F G H I J K L M N O P Q S T U V W X Y Z->
 b (aw c 19) d e f g h i j k l m n o p q r s t u v x y z A B C D a F G H I J K L M N O P Q S T U V W X Y Z)/\
 (∀ a:Nat->Bool,a 20=false->a 19=true->∀ c d e f g h i j k l m n o p q r s t u v x y z A B C D E F G H I J K L M N O P Q S T U V W X Y,b a c d e f g h i j k l m n o p q r s t u v x y z A B C D E F G H I J K L M N O P Q S T U V W X Y->
 RR (ao .mul 3 false true D (.int .i64 7)) Y fun C Y=>
 b (aw a 20) c d e f g h i j k l m n o p q r s t u v x y z A B C D E F G H I J K L M N O P Q S T U V W X Y)/\
 (∀ a:Nat->Bool,a 21=false->a 20=true->∀ c d e f g h i j k l m n o p q r s t u v x y z A B C D E F G H I J K L M N O P Q S T U V W X Y,b a c d e f g h i j k l m n o p q r s t u v x y z A B C D E F G H I J K L M N O P Q S T U V W X Y->
 RR (ao .add 3 false true C (.int .i64 3)) Y fun B Y=>
 b (aw a 21) c d e f g h i j k l m n o p q r s t u v x y z A B C D E F G H I J K L M N O P Q S T U V W X Y)/\
 (∀ a:Nat->Bool,a 22=false->∀ c d e f g h i j k l m n o p q r s t u v x y z A B C D E F G H I J K L M N O P Q S T U V W X Y,b a c d e f g h i j k l m n o p q r s t u v x y z A B C D E F G H I J K L M N O P Q S T U V W X Y->
 b (aw a 22) c d e f g h i j k l m n o p q r s t u v x y z p0 B C D E F G H I J K L M N O P Q S T U V W X Y)/\
 (∀ a:Nat->Bool,a 23=false->a 22=true->∀ c d e f g h i j k l m n o p q r s t u v x y z A B C D E F G H I J K L M N O P Q S T U V W X Y,b a c d e f g h i j k l m n o p q r s t u v x y z A B C D E F G H I J K L M N O P Q S T U V W X Y->
 RR (sOp (.nilCheck (.const A)) 0) Y fun z Y=>
 b (aw a 23) c d e f g h i j k l m n o p q r s t u v x y z A B C D E F G H I J K L M N O P Q S T U V W X Y)/\
 (∀ a:Nat->Bool,a 24=false->a 23=true->∀ c d e f g h i j k l m n o p q r s t u v x y z A B C D E F G H I J K L M N O P Q S T U V W X Y,b a c d e f g h i j k l m n o p q r s t u v x y z A B C D E F G H I J K L M N O P Q S T U V W X Y->
 RR (sOp (.fieldAddr 78 (.const z) 0) 0) Y fun y Y=>
 b (aw a 24) c d e f g h i j k l m n o p q r s t u v x y z A B C D E F G H I J K L M N O P Q S T U V W X Y)/\
 (∀ a:Nat->Bool,a 25=false->a 24=true->∀ c d e f g h i j k l m n o p q r s t u v x y z A B C D E F G H I J K L M N O P Q S T U V W X Y,b a c d e f g h i j k l m n o p q r s t u v x y z A B C D E F G H I J K L M N O P Q S T U V W X Y->
 RR (sOp (.load 22 (.const y)) 22) Y fun x Y=>
 b (aw a 25) c d e f g h i j k l m n o p q r s t u v x y z A B C D E F G H I J K L M N O P Q S T U V W X Y)/\
 (∀ a:Nat->Bool,a 26=false->a 25=true->∀ c d e f g h i j k l m n o p q r s t u v x y z A B C D E F G H I J K L M N O P Q S T U V W X Y,b a c d e f g h i j k l m n o p q r s t u v x y z A B C D E F G H I J K L M N O P Q S T U V W X Y->
 RR (aq .len #[22] 3 [false] [x]) Y fun v Y=>
 b (aw a 26) c d e f g h i j k l m n o p q r s t u v x y z A B C D E F G H I J K L M N O P Q S T U V W X Y)/\
 (∀ a:Nat->Bool,a 27=false->a 21=true->a 26=true->∀ c d e f g h i j k l m n o p q r s t u v x y z A B C D E F G H I J K L M N O P Q S T U V W X Y,b a c d e f g h i j k l m n o p q r s t u v x y z A B C D E F G H I J K L M N O P Q S T U V W X Y->
 RR (ao .rem 3 false false B v) Y fun u Y=>
 b (aw a 27) c d e f g h i j k l m n o p q r s t u v x y z A B C D E F G H I J K L M N O P Q S T U V W X Y)/\
 (∀ a:Nat->Bool,a 28=false->a 18=true->a 27=true->∀ c d e f g h i j k l m n o p q r s t u v x y z A B C D E F G H I J K L M N O P Q S T U V W X Y,b a c d e f g h i j k l m n o p q r s t u v x y z A B C D E F G H I J K L M N O P Q S T U V W X Y->
 RR (sOp (.indexAddr 22 (.const E) (.const u)) 0) Y fun t Y=>
 b (aw a 28) c d e f g h i j k l m n o p q r s t u v x y z A B C D E F G H I J K L M N O P Q S T U V W X Y)/\
 (∀ a:Nat->Bool,a 29=false->a 28=true->∀ c d e f g h i j k l m n o p q r s t u v x y z A B C D E F G H I J K L M N O P Q S T U V W X Y,b a c d e f g h i j k l m n o p q r s t u v x y z A B C D E F G H I J K L M N O P Q S T U V W X Y->
 RR (sOp (.load 5 (.const t)) 5) Y fun s Y=>
 b (aw a 29) c d e f g h i j k l m n o p q r s t u v x y z A B C D E F G H I J K L M N O P Q S T U V W X Y)/\
 (∀ a:Nat->Bool,a 30=false->a 29=true->∀ c d e f g h i j k l m n o p q r s t u v x y z A B C D E F G H I J K L M N O P Q S T U V W X Y,b a c d e f g h i j k l m n o p q r s t u v x y z A B C D E F G H I J K L M N O P Q S T U V W X Y->
 RR (sOp (.convert 5 3 (.const s)) 3) Y fun r Y=>
 b (aw a 30) c d e f g h i j k l m n o p q r s t u v x y z A B C D E F G H I J K L M N O P Q S T U V W X Y)/\
 (∀ a:Nat->Bool,a 31=false->a 30=true->∀ c d e f g h i j k l m n o p q r s t u v x y z A B C D E F G H I J K L M N O P Q S T U V W X Y,b a c d e f g h i j k l m n o p q r s t u v x y z A B C D E F G H I J K L M N O P Q S T U V W X Y->
 RR (ao .mul 3 false true r (.int .i64 1117)) Y fun q Y=>
 b (aw a 31) c d e f g h i j k l m n o p q r s t u v x y z A B C D E F G H I J K L M N O P Q S T U V W X Y)/\
 (∀ a:Nat->Bool,a 32=false->a 14=true->a 31=true->∀ c d e f g h i j k l m n o p q r s t u v x y z A B C D E F G H I J K L M N O P Q S T U V W X Y,b a c d e f g h i j k l m n o p q r s t u v x y z A B C D E F G H I J K L M N O P Q S T U V W X Y->
 RR (ao .add 3 false false I q) Y fun p Y=>
 b (aw a 32) c d e f g h i j k l m n o p q r s t u v x y z A B C D E F G H I J K L M N O P Q S T U V W X Y)/\
 (∀ c:Nat->Bool,c 33=false->∀ d e f g h i j k l m n o p q r s t u v x y z A B C D E F G H I J K L M N O P Q S T U V W X Y Z,b c d e f g h i j k l m n o p q r s t u v x y z A B C D E F G H I J K L M N O P Q S T U V W X Y Z->
 b (aw c 33) d e f g h i j k l m n o a q r s t u v x y z A B C D E F G H I J K L M N O P Q S T U V W X Y Z)/\
 (∀ a:Nat->Bool,a 34=false->a 33=true->∀ c d e f g h i j k l m n o p q r s t u v x y z A B C D E F G H I J K L M N O P Q S T U V W X Y,b a c d e f g h i j k l m n o p q r s t u v x y z A B C D E F G H I J K L M N O P Q S T U V W X Y->
 RR (ao .mul 3 false true o (.int .i64 29)) Y fun n Y=>
 b (aw a 34) c d e f g h i j k l m n o p q r s t u v x y z A B C D E F G H I J K L M N O P Q S T U V W X Y)/\
 (∀ a:Nat->Bool,a 35=false->a 32=true->a 34=true->∀ c d e f g h i j k l m n o p q r s t u v x y z A B C D E F G H I J K L M N O P Q S T U V W X Y,b a c d e f g h i j k l m n o p q r s t u v x y z A B C D E F G H I J K L M N O P Q S T U V W X Y->
 RR (ao .add 3 false false p n) Y fun m Y=>
 b (aw a 35) c d e f g h i j k l m n o p q r s t u v x y z A B C D E F G H I J K L M N O P Q S T U V W X Y)/\
 (∀ c:Nat->Bool,c 36=false->∀ d e f g h i j k l m n o p q r s t u v x y z A B C D E F G H I J K L M N O P Q S T U V W X Y Z,b c d e f g h i j k l m n o p q r s t u v x y z A B C D E F G H I J K L M N O P Q S T U V W X Y Z->
 b (aw c 36) d e f g h i j k l a n o p q r s t u v x y z A B C D E F G H I J K L M N O P Q S T U V W X Y Z)/\
 (∀ a:Nat->Bool,a 37=false->∀ c d e f g h i j k l m n o p q r s t u v x y z A B C D E F G H I J K L M N O P Q S T U V W X Y,b a c d e f g h i j k l m n o p q r s t u v x y z A B C D E F G H I J K L M N O P Q S T U V W X Y->
 b (aw a 37) c d e f g h i j p0 l m n o p q r s t u v x y z A B C D E F G H I J K L M N O P Q S T U V W X Y)/\
 (∀ a:Nat->Bool,a 38=false->a 37=true->∀ c d e f g h i j k l m n o p q r s t u v x y z A B C D E F G H I J K L M N O P Q S T U V W X Y,b a c d e f g h i j k l m n o p q r s t u v x y z A B C D E F G H I J K L M N O P Q S T U V W X Y->
 RR (sOp (.nilCheck (.const k)) 0) Y fun j Y=>
 b (aw a 38) c d e f g h i j k l m n o p q r s t u v x y z A B C D E F G H I J K L M N O P Q S T U V W X Y)/\
 (∀ a:Nat->Bool,a 39=false->a 38=true->∀ c d e f g h i j k l m n o p q r s t u v x y z A B C D E F G H I J K L M N O P Q S T U V W X Y,b a c d e f g h i j k l m n o p q r s t u v x y z A B C D E F G H I J K L M N O P Q S T U V W X Y->
 RR (sOp (.fieldAddr 78 (.const j) 0) 0) Y fun i Y=>
 b (aw a 39) c d e f g h i j k l m n o p q r s t u v x y z A B C D E F G H I J K L M N O P Q S T U V W X Y)/\
 (∀ a:Nat->Bool,a 40=false->a 39=true->∀ c d e f g h i j k l m n o p q r s t u v x y z A B C D E F G H I J K L M N O P Q S T U V W X Y,b a c d e f g h i j k l m n o p q r s t u v x y z A B C D E F G H I J K L M N O P Q S T U V W X Y->
 RR (sOp (.load 22 (.const i)) 22) Y fun h Y=>
 b (aw a 40) c d e f g h i j k l m n o p q r s t u v x y z A B C D E F G H I J K L M N O P Q S T U V W X Y)/\
 (∀ a:Nat->Bool,a 41=false->a 40=true->∀ c d e f g h i j k l m n o p q r s t u v x y z A B C D E F G H I J K L M N O P Q S T U V W X Y,b a c d e f g h i j k l m n o p q r s t u v x y z A B C D E F G H I J K L M N O P Q S T U V W X Y->
 RR (aq .len #[22] 3 [false] [h]) Y fun g Y=>
 b (aw a 41) c d e f g h i j k l m n o p q r s t u v x y z A B C D E F G H I J K L M N O P Q S T U V W X Y)/\
 (∀ a:Nat->Bool,a 42=false->a 36=true->a 41=true->∀ c d e f g h i j k l m n o p q r s t u v x y z A B C D E F G H I J K L M N O P Q S T U V W X Y,b a c d e f g h i j k l m n o p q r s t u v x y z A B C D E F G H I J K L M N O P Q S T U V W X Y->
 RR (ao .quo 3 false false l g) Y fun f Y=>
 b (aw a 42) c d e f g h i j k l m n o p q r s t u v x y z A B C D E F G H I J K L M N O P Q S T U V W X Y)/\
 (∀ a:Nat->Bool,a 43=false->a 42=true->∀ c d e f g h i j k l m n o p q r s t u v x y z A B C D E F G H I J K L M N O P Q S T U V W X Y,b a c d e f g h i j k l m n o p q r s t u v x y z A B C D E F G H I J K L M N O P Q S T U V W X Y->
 RR (ao .mul 3 false true f (.int .i64 53)) Y fun e Y=>
 b (aw a 43) c d e f g h i j k l m n o p q r s t u v x y z A B C D E F G H I J K L M N O P Q S T U V W X Y)/\
 (∀ a:Nat->Bool,a 44=false->a 35=true->a 43=true->∀ c d e f g h i j k l m n o p q r s t u v x y z A B C D E F G H I J K L M N O P Q S T U V W X Y,b a c d e f g h i j k l m n o p q r s t u v x y z A B C D E F G H I J K L M N O P Q S T U V W X Y->
 RR (ao .add 3 false false m e) Y fun d Y=>
 b (aw a 44) c d e f g h i j k l m n o p q r s t u v x y z A B C D E F G H I J K L M N O P Q S T U V W X Y)/\
 (∀ a:Nat->Bool,a 45=false->a 44=true->a 0=true->a 1=true->a 2=true->a 3=true->a 4=true->a 5=true->a 6=true->a 7=true->a 8=true->a 9=true->a 10=true->a 11=true->a 12=true->a 13=true->a 14=true->a 15=true->a 16=true->a 17=true->a 18=true->a 19=true->a 20=true->a 21=true->a 22=true->a 23=true->a 24=true->a 25=true->a 26=true->a 27=true->a 28=true->a 29=true->a 30=true->a 31=true->a 32=true->a 33=true->a 34=true->a 35=true->a 36=true->a 37=true->a 38=true->a 39=true->a 40=true->a 41=true->a 42=true->a 43=true->a 44=true->∀ c d e f g h i j k l m n o p q r s t u v x y z A B C D E F G H I J K L M N O P Q S T U V W X Y,b a c d e f g h i j k l m n o p q r s t u v x y z A B C D E F G H I J K L M N O P Q S T U V W X Y->
 b (aw a 45) d d e f g h i j k l m n o p q r s t u v x y z A B C D E F G H I J K L M N O P Q S T U V W X Y)/\
 True)/\
 ∀ a:Nat->Bool,a 45=true->a 44=true->a 43=true->a 42=true->a 41=true->a 40=true->a 39=true->a 38=true->a 37=true->a 36=true->a 35=true->a 34=true->a 33=true->a 32=true->a 31=true->a 30=true->a 29=true->a 28=true->a 27=true->a 26=true->a 25=true->a 24=true->a 23=true->a 22=true->a 21=true->a 20=true->a 19=true->a 18=true->a 17=true->a 16=true->a 15=true->a 14=true->a 13=true->a 12=true->a 11=true->a 10=true->a 9=true->a 8=true->a 7=true->a 6=true->a 5=true->a 4=true->a 3=true->a 2=true->a 1=true->a 0=true->∀ c d e f g h i j k l m n o p q r s t u v x y z A B C D E F G H I J K L M N O P Q S T U V W X Y,b a c d e f g h i j k l m n o p q r s t u v x y z A B C D E F G H I J K L M N O P Q S T U V W X Y->
 RR (ao .quo 3 false true c (.int .i64 64)) Y fun a b=>
 RR (ao .xor 3 false false c a) b fun a b=>
 RR (ao .rem 3 false false a p1) b fun a b=>
 R (.returned a) b))))
theorem nz {p0 p1:Value} {w:World} {R:Ending->World->Prop} (h:kB p0 p1 w R):Calls Tryz.prog 69 #[p0,p1] w R:=
  aN (.seq none .leaf (.seq none .leaf (.seq none (.seq (some [24]) .leaf .leaf) .leaf))) [p0,p1] bh Tryz.func69 (by kernel_rfl) (by kernel_rfl) h


/- loop.example/prologserver/spec.l16Body : function 71 -/
def j3 (p0 p1 p2 p3 p4:Value) (w:World) (R:Ending->World->Prop):Prop:=
 RR (sOp (.box 39 (.const p1)) 0) w fun a b=>
 RR (aq .len #[23] 3 [false] [p0]) b fun b c=>
 RR (ao .gtr 3 false true b (.int .i64 60)) c fun b c=>
 CondV b (
 R (.returned p0) c) (
 RR (sOp (.fieldAddr 39 (.const a) 1) 0) c fun b c=>
 RR (sOp (.load 23 (.const b)) 23) c fun b c=>
 RR (aq .len #[23] 3 [false] [b]) c fun b c=>
 RR (ao .eql 3 false false p2 b) c fun b c=>
 CondV b (
 RR (sOp (.fieldAddr 39 (.const a) 0) 0) c fun a b=>
 RR (sOp (.load 25 (.const a)) 25) b fun a b=>
 RR (aH (.func (.func 116) #[] #[]) [a,p4]) b fun a b=>
 RR (aH (.func (.func 115) #[] #[]) [p0,a]) b fun a b=>
 R (.returned a) b) (
 (∃ (b:Value->Value->World->Prop) (d:Value->Value->World->Nat),b (.int .i64 0) p0 c/\
 ∀ c _ _ e _ _ _ _ _ _ _ _ f g h i j k l m n o p q r s t u _ _ _ _:Value,∀ v:World,b c e v->
 RR (aq .len #[23] 3 [false] [p3]) v fun x y=>
 RR (ao .lss 3 false false c x) y fun x y=>
 CondV x (
 (∃ x:Value->World->Prop,(
 (∃ b:(Nat->Bool)->Value->Value->Value->Value->Value->Value->Value->Value->Value->Value->Value->Value->Value->Value->Value->Value->World->Prop,b (fun _=>false) f g h i j k l m n o p q r s t u { y with drawn:=y.drawn+1 }/\(
 (∀ c:Nat->Bool,c 0=false->∀ d e f g h i j k l m n o p q r s t,b c d e f g h i j k l m n o p q r s t->
 RR (sOp (.fieldAddr 39 (.const a) 1) 0) t fun a s=>
 b (aw c 0) d e f g h i j k l m n o p q r a s)/\
 (∀ a:Nat->Bool,a 1=false->a 0=true->∀ c d e f g h i j k l m n o p q r s,b a c d e f g h i j k l m n o p q r s->
 RR (sOp (.load 23 (.const r)) 23) s fun q s=>
 b (aw a 1) c d e f g h i j k l m n o p q r s)/\
 (∀ a:Nat->Bool,a 2=false->∀ c d e f g h i j k l m n o p q r s,b a c d e f g h i j k l m n o p q r s->
 b (aw a 2) c d e f g h i j k l m n o p2 q r s)/\
 (∀ a:Nat->Bool,a 3=false->a 1=true->a 2=true->∀ c d e f g h i j k l m n o p q r s,b a c d e f g h i j k l m n o p q r s->
 RR (sOp (.indexAddr 23 (.const q) (.const p)) 0) s fun o s=>
 b (aw a 3) c d e f g h i j k l m n o p q r s)/\
 (∀ a:Nat->Bool,a 4=false->a 3=true->∀ c d e f g h i j k l m n o p q r s,b a c d e f g h i j k l m n o p q r s->
 RR (sOp (.load 25 (.const o)) 25) s fun n s=>
 b (aw a 4) c d e f g h i j k l m n o p q r s)/\
 (∀ a:Nat->Bool,a 5=false->∀ c d e f g h i j k l m n o p q r s,b a c d e f g h i j k l m n o p q r s->
 b (aw a 5) c d e f g h i j k l p3 n o p q r s)/\
 (∀ a:Nat->Bool,a 6=false->∀ d e f g h i j k l m n o p q r s t,b a d e f g h i j k l m n o p q r s t->
 b (aw a 6) d e f g h i j k l c n o p q r s t)/\
 (∀ a:Nat->Bool,a 7=false->a 5=true->a 6=true->∀ c d e f g h i j k l m n o p q r s,b a c d e f g h i j k l m n o p q r s->
 RR (sOp (.indexAddr 23 (.const m) (.const l)) 0) s fun k s=>
 b (aw a 7) c d e f g h i j k l m n o p q r s)/\
 (∀ a:Nat->Bool,a 8=false->a 7=true->∀ c d e f g h i j k l m n o p q r s,b a c d e f g h i j k l m n o p q r s->
 RR (sOp (.load 25 (.const k)) 25) s fun j s=>
 b (aw a 8) c d e f g h i j k l m n o p q r s)/\
 (∀ a:Nat->Bool,a 9=false->∀ c d e f g h i j k l m n o p q r s,b a c d e f g h i j k l m n o p q r s->
 b (aw a 9) c d e f g h p4 j k l m n o p q r s)/\
 (∀ a:Nat->Bool,a 10=false->a 4=true->a 8=true->a 9=true->∀ c d e f g h i j k l m n o p q r s,b a c d e f g h i j k l m n o p q r s->
 RR (aH (.func (.func 117) #[] #[]) [n,j,i]) s fun h s=>
 b (aw a 10) c d e f g h i j k l m n o p q r s)/\
 (∀ a:Nat->Bool,a 11=false->a 10=true->∀ c d e f g h i j k l m n o p q r s,b a c d e f g h i j k l m n o p q r s->
 b (aw a 11) c d e f h h i j k l m n o p q r s)/\
 (∀ a:Nat->Bool,a 12=false->a 11=true->∀ c d e f g h i j k l m n o p q r s,b a c d e f g h i j k l m n o p q r s->
 RR (sOp (.extract (.const g) 0) 23) s fun f s=>
 b (aw a 12) c d e f g h i j k l m n o p q r s)/\
 (∀ a:Nat->Bool,a 13=false->a 11=true->∀ c d e f g h i j k l m n o p q r s,b a c d e f g h i j k l m n o p q r s->
 RR (sOp (.extract (.const g) 1) 4) s fun e s=>
 b (aw a 13) c d e f g h i j k l m n o p q r s)/\
 (∀ a:Nat->Bool,a 14=false->a 12=true->a 10=true->a 0=true->a 1=true->a 2=true->a 3=true->a 4=true->a 5=true->a 6=true->a 7=true->a 8=true->a 9=true->a 10=true->a 11=true->a 12=true->∀ c d e f g h i j k l m n o p q r s,b a c d e f g h i j k l m n o p q r s->
 b (aw a 14) c f e f g h i j k l m n o p q r s)/\
 (∀ a:Nat->Bool,a 15=false->a 13=true->a 14=true->a 0=true->a 1=true->a 2=true->a 3=true->a 4=true->a 5=true->a 6=true->a 7=true->a 8=true->a 9=true->a 10=true->a 11=true->a 12=true->a 13=true->a 14=true->∀ c d e f g h i j k l m n o p q r s,b a c d e f g h i j k l m n o p q r s->
 b (aw a 15) e d e f g h i j k l m n o p q r s)/\
 True)/\
 ∀ c:Nat->Bool,c 15=true->c 14=true->c 13=true->c 12=true->c 11=true->c 10=true->c 9=true->c 8=true->c 7=true->c 6=true->c 5=true->c 4=true->c 3=true->c 2=true->c 1=true->c 0=true->∀ d f g h i j k l m n o p q r s t u,b c d f g h i j k l m n o p q r s t u->
 CondV d (
 RR (sOp (.load 39 (.const a)) 39) u fun a b=>
 RR (ao .add 3 false true p2 (.int .i64 1)) b fun b c=>
 RR (aH (.func (.func 71) #[] #[]) [e,a,b,p3,f]) c fun a b=>
 x a b) (
 x e u)))/\
 ∀ a _ _ _ _ _ _ _ _ _ _ _ _ _ _ _ _ _ _ _ _ _ _ _ _:Value,∀ f:World,x a f->
 RR (ao .add 3 false true c (.int .i64 1)) f fun f g=>
 b f a g/\d f a g<d c e v)) (
 R (.returned e) y))))
theorem kr {p0 p1 p2 p3 p4:Value} {w:World} {R:Ending->World->Prop} (h:j3 p0 p1 p2 p3 p4 w R):Calls Tryz.prog 71 #[p0,p1,p2,p3,p4] w R:=
  aN (.seq none .leaf (.seq none .leaf (.seq none .leaf (.seq none (.seq none .leaf (.one (.loop [11,0] (.seq none .leaf (.seq (some [0]) .leaf .leaf))))) .leaf)))) [p0,p1,p2,p3,p4] bh Tryz.func71 (by kernel_rfl) (by kernel_rfl) h


/- loop.example/prologserver/spec.l16Texts : function 73 -/
def mv (w:World) (R:Ending->World->Prop):Prop:=
 RR (aW 67 6 [(0,(.string ⟨#[101,40,97,44,98,41,46,10,101,40,98,44,99,41,46,10,101,40,99,44,97,41,46,10,116,40,65,44,66,41,58,45,101,40,65,44,66,41,46,10,116,40,65,44,66,41,58,45,101,40,65,44,67,41,44,116,40,67,44,66,41,46,10]⟩)),(1,(.string ⟨#[112,40,49,41,46,10,112,40,50,41,46,10,113,40,65,44,66,41,58,45,112,40,65,41,44,112,40,66,41,46,10,114,40,65,41,58,45,113,40,65,44,65,41,46,10]⟩)),(2,(.string ⟨#[111,107,46,10,121,101,115,58,45,111,107,46,10,110,111,58,45,110,101,118,101,114,40,49,41,46,10]⟩)),(3,(.string ⟨#[117,112,40,97,44,98,41,46,10,117,112,40,98,44,99,41,46,10,115,103,40,65,44,66,41,58,45,117,112,40,65,44,67,41,44,117,112,40,66,44,67,41,46,10,115,103,40,65,44,66,41,58,45,117,112,40,65,44,67,41,44,115,103,40,67,44,68,41,44,117,112,40,66,44,68,41,46,10]⟩)),(4,(.string ⟨#[110,40,49,41,46,10,110,40,65,41,58,45,110,40,65,41,46,10,109,40,65,41,58,45,110,40,65,41,44,111,40,65,41,46,10,111,40,49,41,46,10]⟩)),(5,(.string ⟨#[101,40,97,44,98,41,46,10,101,40,98,44,99,41,46,10,116,40,65,44,66,41,58,45,101,40,65,44,66,41,46,10,116,40,65,44,66,41,58,45,116,40,65,44,67,41,44,116,40,67,44,66,41,46,10]⟩))]) w fun a b=>
 R (.returned a) b
theorem pP {w:World} {R:Ending->World->Prop} (h:mv w R):Calls Tryz.prog 73 #[] w R:=
  aN .leaf [] bh Tryz.func73 (by kernel_rfl) (by kernel_rfl) h


/- loop.example/prologserver/spec.ParseProgram : function 74 -/
def iK (p0:Value) (w:World) (R:Ending->World->Prop):Prop:=
 RR (aW 32 0 []) w fun a b=>
 RR (aH (.func (.func 119) #[] #[]) [p0,(.int .u8 10)]) b fun b c=>
 (∃ d:Value->World->Prop,(
 RR (aq .len #[67] 3 [false] [b]) c fun a c=>
 RR (ao .gtr 3 false true a (.int .i64 21)) c fun a c=>
 ag a false (
 RR (aq .len #[67] 3 [false] [b]) c fun c e=>
 RR (ao .sub 3 false true c (.int .i64 1)) e fun c e=>
 RR (sOp (.indexAddr 67 (.const b) (.const c)) 0) e fun b c=>
 RR (sOp (.load 9 (.const b)) 9) c fun b c=>
 RR (ao .neq 9 false true b (.string ⟨#[]⟩)) c fun b c=>
 RR (sOp (.pick (.const a) (.const (.bool true)) (.const b)) 4) c fun a b=>
 d a b) (
 RR (sOp (.pick (.const a) (.const (.bool true)) (.const undef)) 4) c fun a b=>
 d a b))/\
 ∀ c _ _ _ _ _ _ _ _ _ _ _:Value,∀ e:World,d c e->
 CondV c (
 R (.returned (.tuple #[a,(.bool false)])) e) (
 (∃ (c:Value->Value->World->Prop) (d:Value->Value->World->Nat),c (.int .i64 0) a e/\
 ∀ a _ _ e _ _ _ _ _ _ _ _ _ _ _ _ _ _ _ _ _ _ _ _ _ _ _ _:Value,∀ f:World,c a e f->
 RR (ao .add 3 false true a (.int .i64 1)) f fun g h=>
 RR (aq .len #[67] 3 [false] [b]) h fun h i=>
 RR (ao .lss 3 false false g h) i fun g h=>
 CondV g (
 RR (sOp (.indexAddr 67 (.const b) (.const a)) 0) h fun b g=>
 RR (sOp (.load 9 (.const b)) 9) g fun b g=>
 RR (aH (.func (.func 120) #[] #[]) [b]) g fun b g=>
 RR (sOp (.extract (.const b) 0) 39) g fun g h=>
 RR (sOp (.extract (.const b) 1) 4) h fun b h=>
 RR (sOp (.alloc 39) 0) h fun h i=>
 RR (sOp (.store 39 (.const h) (.const g)) 0) i fun _ g=>
 RR (sOp (.unOp .not 4 (.const b)) 4) g fun b g=>
 CondV b (
 RR (aW 32 0 []) g fun a b=>
 R (.returned (.tuple #[a,(.bool false)])) b) (
 RR (sOp (.load 39 (.const h)) 39) g fun b g=>
 RR (aW 32 1 [(0,b)]) g fun b g=>
 RR (aq .append #[32,32] 32 [false,false] [e,b]) g fun b g=>
 RR (ao .add 3 false true a (.int .i64 1)) g fun g h=>
 c g b h/\d g b h<d a e f)) (
 R (.returned (.tuple #[e,(.bool true)])) h))))
theorem kK {p0:Value} {w:World} {R:Ending->World->Prop} (h:iK p0 w R):Calls Tryz.prog 74 #[p0] w R:=
  aN (.seq none .leaf (.seq none .leaf (.seq none .leaf (.seq none (.seq (some [23]) .leaf .leaf) (.seq none (.seq none .leaf (.one (.loop [6,4] .leaf))) .leaf))))) [p0] bh Tryz.func74 (by kernel_rfl) (by kernel_rfl) h


/- loop.example/prologserver/spec.l4Program : function 75 -/
def lM (p0:Value) (w:World) (R:Ending->World->Prop):Prop:=
 RR (aH (.func (.func 121) #[] #[]) []) w fun a b=>
 RR (aq .len #[67] 3 [false] [a]) b fun b c=>
 RR (aH (.func (.func 69) #[] #[]) [p0,b]) c fun b c=>
 RR (sOp (.indexAddr 67 (.const a) (.const b)) 0) c fun a b=>
 RR (sOp (.load 9 (.const a)) 9) b fun a b=>
 RR (aH (.func (.func 74) #[] #[]) [a]) b fun a b=>
 RR (sOp (.extract (.const a) 0) 32) b fun b c=>
 RR (sOp (.extract (.const a) 1) 4) c fun _ a=>
 R (.returned b) a
theorem nW {p0:Value} {w:World} {R:Ending->World->Prop} (h:lM p0 w R):Calls Tryz.prog 75 #[p0] w R:=
  aN .leaf [p0] bh Tryz.func75 (by kernel_rfl) (by kernel_rfl) h


/- (*loop.example/prologserver/spec.l18Rd).of : function 76 -/
def mK (p0 p1:Value) (w:World) (R:Ending->World->Prop):Prop:=
 RR (aq .len #[67] 3 [false] [p1]) w fun a b=>
 RR (aH (.func (.func 69) #[] #[]) [p0,a]) b fun a b=>
 RR (sOp (.indexAddr 67 (.const p1) (.const a)) 0) b fun a b=>
 RR (sOp (.load 9 (.const a)) 9) b fun a b=>
 R (.returned a) b
theorem qy {p0 p1:Value} {w:World} {R:Ending->World->Prop} (h:mK p0 p1 w R):Calls Tryz.prog 76 #[p0,p1] w R:=
  aN .leaf [p0,p1] bh Tryz.func76 (by kernel_rfl) (by kernel_rfl) h


/- loop.example/prologserver/spec.l1Int : function 77 -/
def um (p0:Value) (w:World) (R:Ending->World->Prop):Prop:=
 RR (sOp (.alloc 25) 0) w fun a b=>
 RR (cK 25 [(0,(.int .i64 2)),(1,p0)]) b fun b c=>
 RR (sOp (.store 25 (.const a) (.const b)) 0) c fun _ b=>
 (a4 Tryz.prog 25 a b fun a=>R (.returned a) b)
theorem u6 {p0:Value} {w:World} {R:Ending->World->Prop} (h:um p0 w R):Calls Tryz.prog 77 #[p0] w R:=
  aN .leaf [p0] bh Tryz.func77 (by kernel_rfl) (by kernel_rfl) h


/- loop.example/prologserver/spec.l1Struct : function 78 -/
def mp (p0 p1:Value) (w:World) (R:Ending->World->Prop):Prop:=
 RR (sOp (.alloc 25) 0) w fun a b=>
 RR (aW 23 0 []) b fun b c=>
 RR (aq .append #[23,23] 23 [false,false] [b,p1]) c fun b c=>
 RR (cK 25 [(0,(.int .i64 3)),(2,p0),(3,b)]) c fun b c=>
 RR (sOp (.store 25 (.const a) (.const b)) 0) c fun _ b=>
 (a4 Tryz.prog 25 a b fun a=>R (.returned a) b)
theorem qe {p0 p1:Value} {w:World} {R:Ending->World->Prop} (h:mp p0 p1 w R):Calls Tryz.prog 78 #[p0,p1] w R:=
  aN .leaf [p0,p1] bh Tryz.func78 (by kernel_rfl) (by kernel_rfl) h


/- loop.example/prologserver/spec.l16Goals : function 79 -/
def mB (w:World) (R:Ending->World->Prop):Prop:=
 RR (aW 67 7 [(0,(.string ⟨#[116,40,65,44,66,41]⟩)),(1,(.string ⟨#[113,40,65,44,66,41]⟩)),(2,(.string ⟨#[121,101,115]⟩)),(3,(.string ⟨#[115,103,40,65,44,66,41]⟩)),(4,(.string ⟨#[109,40,65,41]⟩)),(5,(.string ⟨#[116,40,97,44,66,41]⟩)),(6,(.string ⟨#[101,40,65,44,98,41]⟩))]) w fun a b=>
 R (.returned a) b
theorem qD {w:World} {R:Ending->World->Prop} (h:mB w R):Calls Tryz.prog 79 #[] w R:=
  aN .leaf [] bh Tryz.func79 (by kernel_rfl) (by kernel_rfl) h


/- loop.example/prologserver/spec.ParseTerm : function 80 -/
def lD (p0:Value) (w:World) (R:Ending->World->Prop):Prop:=
 RR (sOp (.alloc 25) 0) w fun a b=>
 RR (aH (.func (.func 122) #[] #[]) [p0,(.int .i64 0),(.int .i64 30)]) b fun b c=>
 RR (sOp (.extract (.const b) 0) 25) c fun c d=>
 RR (sOp (.extract (.const b) 1) 3) d fun b d=>
 RR (sOp (.alloc 25) 0) d fun d e=>
 RR (sOp (.store 25 (.const d) (.const c)) 0) e fun _ c=>
 (∃ e:Value->World->Prop,(
 RR (ao .eql 9 false true p0 (.string ⟨#[]⟩)) c fun a c=>
 ((fun d:VW=>ag a false (
 RR (aq .len #[9] 3 [false] [p0]) c fun c e=>
 RR (ao .neq 3 false false b c) e fun b c=>
 RR (sOp (.pick (.const a) (.const (.bool true)) (.const b)) 4) c fun a b=>d a b) (
 RR (sOp (.pick (.const a) (.const (.bool true)) (.const undef)) 4) c fun a b=>d a b)) fun a b=>
 ag a false (
 RR (sOp (.load 25 (.const d)) 25) b fun b c=>
 RR (aH (.func (.func 123) #[] #[]) [b]) c fun b c=>
 RR (ao .neq 9 false false b p0) c fun b c=>
 RR (sOp (.pick (.const a) (.const (.bool true)) (.const b)) 4) c fun a b=>
 e a b) (
 RR (sOp (.pick (.const a) (.const (.bool true)) (.const undef)) 4) b fun a b=>
 e a b)))/\
 ∀ b _ _ _ _ _ _ _ _ _ _ _ _ _:Value,∀ c:World,e b c->
 CondV b (
 RR (cK 25 []) c fun b c=>
 RR (sOp (.store 25 (.const a) (.const b)) 0) c fun _ b=>
 (a4 Tryz.prog 25 a b fun a=>R (.returned (.tuple #[a,(.bool false)])) b)) (
 RR (sOp (.load 25 (.const d)) 25) c fun b c=>
 RR (sOp (.store 25 (.const a) (.const b)) 0) c fun _ b=>
 (a4 Tryz.prog 25 a b fun a=>R (.returned (.tuple #[a,(.bool true)])) b)))
theorem nS {p0:Value} {w:World} {R:Ending->World->Prop} (h:lD p0 w R):Calls Tryz.prog 80 #[p0] w R:=
  aN (.seq none .leaf (.seq none .leaf (.seq none (.seq (some [24]) .leaf .leaf) .leaf))) [p0] bh Tryz.func80 (by kernel_rfl) (by kernel_rfl) h


/- loop.example/prologserver/impl.own : function 81 -/
def Am (p0:Value) (w:World) (R:Ending->World->Prop):Prop:=
 RR (sOp (.box 25 (.const p0)) 0) w fun a b=>
 RR (sOp (.alloc 25) 0) b fun b c=>
 RR (sOp (.fieldAddr 25 (.const a) 3) 0) c fun c d=>
 RR (sOp (.load 23 (.const c)) 23) d fun c d=>
 RR (aH (.func (.func 36) #[] #[]) [c]) d fun c d=>
 RR (sOp (.fieldAddr 25 (.const a) 3) 0) d fun d e=>
 RR (sOp (.store 23 (.const d) (.const c)) 0) e fun _ c=>
 RR (sOp (.load 25 (.const a)) 25) c fun a c=>
 RR (sOp (.store 25 (.const b) (.const a)) 0) c fun _ a=>
 (a4 Tryz.prog 25 b a fun b=>R (.returned b) a)
theorem z6 {p0:Value} {w:World} {R:Ending->World->Prop} (h:Am p0 w R):Calls Tryz.prog 81 #[p0] w R:=
  aN .leaf [p0] bh Tryz.func81 (by kernel_rfl) (by kernel_rfl) h


/- slices.IndexFunc[[]loop.example/prologserver/impl.Term,loop.example/prologserver/impl.Term] : function 82 -/
def gM (p0 p1:Value) (w:World) (R:Ending->World->Prop):Prop:=
 RR (aq .len #[23] 3 [false] [p0]) w fun a b=>
 (∃ (c:Value->World->Prop) (d:Value->World->Nat),c (.int .i64 0) b/\
 ∀ b _ _ _ _ _ _ _ _ _ _ _ _:Value,∀ e:World,c b e->
 RR (ao .lss 3 false false b a) e fun a f=>
 CondV a (
 RR (sOp (.indexAddr 23 (.const p0) (.const b)) 0) f fun a f=>
 RR (sOp (.load 25 (.const a)) 25) f fun a f=>
 RR (aH p1 [a]) f fun a f=>
 CondV a (
 R (.returned b) f) (
 RR (ao .add 3 false true b (.int .i64 1)) f fun a f=>
 c a f/\d a f<d b e)) (
 R (.returned (.int .i64 (-1))) f))
theorem jU {p0 p1:Value} {w:World} {R:Ending->World->Prop} (h:gM p0 p1 w R):Calls Tryz.prog 82 #[p0,p1] w R:=
  aN (.seq none .leaf (.seq none (.seq none .leaf (.one (.loop [8] .leaf))) .leaf)) [p0,p1] bh Tryz.func82 (by kernel_rfl) (by kernel_rfl) h


/- slices.EqualFunc[[]loop.example/prologserver/impl.Term,[]loop.example/prologserver/impl.Term,loop.example/prologserver/impl.Term,loop.example/prologserver/impl.Term] : function 83 -/
def gN (p0 p1 p2:Value) (w:World) (R:Ending->World->Prop):Prop:=
 RR (aq .len #[23] 3 [false] [p0]) w fun a b=>
 RR (aq .len #[23] 3 [false] [p1]) b fun b c=>
 RR (ao .neq 3 false false a b) c fun a b=>
 CondV a (
 R (.returned (.bool false)) b) (
 RR (aq .len #[23] 3 [false] [p0]) b fun a b=>
 (∃ (c:Value->World->Prop) (d:Value->World->Nat),c (.int .i64 0) b/\
 ∀ b _ _ _ _ _ _ _ _ _ _ _ _ _ _ _ _ _ _:Value,∀ e:World,c b e->
 RR (ao .lss 3 false false b a) e fun a f=>
 CondV a (
 RR (sOp (.indexAddr 23 (.const p0) (.const b)) 0) f fun a f=>
 RR (sOp (.load 25 (.const a)) 25) f fun a f=>
 RR (sOp (.alloc 25) 0) f fun f g=>
 RR (sOp (.store 25 (.const f) (.const a)) 0) g fun _ a=>
 RR (sOp (.indexAddr 23 (.const p1) (.const b)) 0) a fun a g=>
 RR (sOp (.load 25 (.const a)) 25) g fun a g=>
 RR (sOp (.alloc 25) 0) g fun g h=>
 RR (sOp (.store 25 (.const g) (.const a)) 0) h fun _ a=>
 RR (sOp (.load 25 (.const f)) 25) a fun a f=>
 RR (sOp (.load 25 (.const g)) 25) f fun f g=>
 RR (aH p2 [a,f]) g fun a f=>
 RR (sOp (.unOp .not 4 (.const a)) 4) f fun a f=>
 CondV a (
 R (.returned (.bool false)) f) (
 RR (ao .add 3 false true b (.int .i64 1)) f fun a f=>
 c a f/\d a f<d b e)) (
 R (.returned (.bool true)) f)))
theorem j2 {p0 p1 p2:Value} {w:World} {R:Ending->World->Prop} (h:gN p0 p1 p2 w R):Calls Tryz.prog 83 #[p0,p1,p2] w R:=
  aN (.seq none .leaf (.seq none .leaf (.seq none (.seq none .leaf (.one (.loop [17] .leaf))) .leaf))) [p0,p1,p2] bh Tryz.func83 (by kernel_rfl) (by kernel_rfl) h


/- loop.example/prologserver/spec.TermValid : function 84 -/
def kW (p0:Value) (w:World) (R:Ending->World->Prop):Prop:=
 RR (sOp (.box 25 (.const p0)) 0) w fun a b=>
 RR (sOp (.load 25 (.const a)) 25) b fun b c=>
 RR (aH (.func (.func 124) #[] #[]) [b,(.int .i64 30)]) c fun b c=>
 ag b true (
 RR (sOp (.load 25 (.const a)) 25) c fun a c=>
 RR (aH (.func (.func 125) #[] #[]) [a,(.int .i64 120)]) c fun a c=>
 RR (ao .leq 3 false true a (.int .i64 120)) c fun a c=>
 RR (sOp (.pick (.const b) (.const a) (.const (.bool false))) 4) c fun a b=>
 R (.returned a) b) (
 RR (sOp (.pick (.const b) (.const undef) (.const (.bool false))) 4) c fun a b=>
 R (.returned a) b)
theorem o8 {p0:Value} {w:World} {R:Ending->World->Prop} (h:kW p0 w R):Calls Tryz.prog 84 #[p0] w R:=
  aN .leaf [p0] bh Tryz.func84 (by kernel_rfl) (by kernel_rfl) h


/- loop.example/prologserver/spec.l3Match : function 85 -/
def oc (p0 p1 p2:Value) (w:World) (R:Ending->World->Prop):Prop:=
 RR (sOp (.box 25 (.const p0)) 0) w fun a b=>
 RR (sOp (.box 25 (.const p1)) 0) b fun b c=>
 RR (sOp (.fieldAddr 25 (.const a) 0) 0) c fun c d=>
 RR (sOp (.load 3 (.const c)) 3) d fun c d=>
 RR (ao .eql 3 false true c (.int .i64 1)) d fun c d=>
 CondV c (
 RR (sOp (.fieldAddr 25 (.const a) 1) 0) d fun c d=>
 RR (sOp (.load 3 (.const c)) 3) d fun c d=>
 RR (sOp (.indexAddr 23 (.const p2) (.const c)) 0) d fun c d=>
 RR (sOp (.fieldAddr 25 (.const c) 0) 0) d fun c d=>
 RR (sOp (.load 3 (.const c)) 3) d fun c d=>
 RR (ao .neq 3 false true c (.int .i64 0)) d fun c d=>
 CondV c (
 (∃ c:(Nat->Bool)->Value->Value->Value->Value->Value->Value->Value->Value->World->Prop,c (fun _=>false) (.bool false) undef undef undef undef undef undef undef { d with drawn:=d.drawn+1 }/\(
 (∀ a:Nat->Bool,a 0=false->∀ b d e f g h i j k,c a b d e f g h i j k->
 c (aw a 0) b d e f g h i p2 k)/\
 (∀ b:Nat->Bool,b 1=false->∀ d e f g h i j k l,c b d e f g h i j k l->
 RR (sOp (.fieldAddr 25 (.const a) 1) 0) l fun a j=>
 c (aw b 1) d e f g h i a k j)/\
 (∀ a:Nat->Bool,a 2=false->a 1=true->∀ b d e f g h i j k,c a b d e f g h i j k->
 RR (sOp (.load 3 (.const i)) 3) k fun h k=>
 c (aw a 2) b d e f g h i j k)/\
 (∀ a:Nat->Bool,a 3=false->a 0=true->a 2=true->∀ b d e f g h i j k,c a b d e f g h i j k->
 RR (sOp (.indexAddr 23 (.const j) (.const h)) 0) k fun g k=>
 c (aw a 3) b d e f g h i j k)/\
 (∀ a:Nat->Bool,a 4=false->a 3=true->∀ b d e f g h i j k,c a b d e f g h i j k->
 RR (sOp (.load 25 (.const g)) 25) k fun f k=>
 c (aw a 4) b d e f g h i j k)/\
 (∀ a:Nat->Bool,a 5=false->∀ d e f g h i j k l,c a d e f g h i j k l->
 RR (sOp (.load 25 (.const b)) 25) l fun b f=>
 c (aw a 5) d e b g h i j k f)/\
 (∀ a:Nat->Bool,a 6=false->a 4=true->a 5=true->∀ b d e f g h i j k,c a b d e f g h i j k->
 RR (aH (.func (.func 118) #[] #[]) [f,e]) k fun d k=>
 c (aw a 6) b d e f g h i j k)/\
 (∀ a:Nat->Bool,a 7=false->a 6=true->a 6=true->a 0=true->a 1=true->a 2=true->a 3=true->a 4=true->a 5=true->a 6=true->∀ b d e f g h i j k,c a b d e f g h i j k->
 c (aw a 7) d d e f g h i j k)/\
 True)/\
 ∀ a:Nat->Bool,a 7=true->a 6=true->a 5=true->a 4=true->a 3=true->a 2=true->a 1=true->a 0=true->∀ b d e f g h i j k,c a b d e f g h i j k->
 R (.returned b) k)) (
 RR (sOp (.fieldAddr 25 (.const a) 1) 0) d fun a c=>
 RR (sOp (.load 3 (.const a)) 3) c fun a c=>
 RR (sOp (.load 25 (.const b)) 25) c fun b c=>
 RR (sOp (.indexAddr 23 (.const p2) (.const a)) 0) c fun a c=>
 RR (sOp (.store 25 (.const a) (.const b)) 0) c fun _ a=>
 R (.returned (.bool true)) a)) (
 (∃ c:Value->World->Prop,(
 RR (sOp (.fieldAddr 25 (.const a) 0) 0) d fun d e=>
 RR (sOp (.load 3 (.const d)) 3) e fun d e=>
 RR (sOp (.fieldAddr 25 (.const b) 0) 0) e fun e f=>
 RR (sOp (.load 3 (.const e)) 3) f fun e f=>
 RR (ao .neq 3 false false d e) f fun d e=>
 ((fun c:VW=>ag d false (
 RR (sOp (.fieldAddr 25 (.const a) 1) 0) e fun a e=>
 RR (sOp (.load 3 (.const a)) 3) e fun a e=>
 RR (sOp (.fieldAddr 25 (.const b) 1) 0) e fun b e=>
 RR (sOp (.load 3 (.const b)) 3) e fun b e=>
 RR (ao .neq 3 false false a b) e fun a b=>
 RR (sOp (.pick (.const d) (.const (.bool true)) (.const a)) 4) b fun a b=>c a b) (
 RR (sOp (.pick (.const d) (.const (.bool true)) (.const undef)) 4) e fun a b=>c a b)) fun d e=>
 ((fun c:VW=>ag d false (
 RR (sOp (.fieldAddr 25 (.const a) 2) 0) e fun a e=>
 RR (sOp (.load 9 (.const a)) 9) e fun a e=>
 RR (sOp (.fieldAddr 25 (.const b) 2) 0) e fun b e=>
 RR (sOp (.load 9 (.const b)) 9) e fun b e=>
 RR (ao .neq 9 false false a b) e fun a b=>
 RR (sOp (.pick (.const d) (.const (.bool true)) (.const a)) 4) b fun a b=>c a b) (
 RR (sOp (.pick (.const d) (.const (.bool true)) (.const undef)) 4) e fun a b=>c a b)) fun d e=>
 ag d false (
 RR (sOp (.fieldAddr 25 (.const a) 3) 0) e fun a e=>
 RR (sOp (.load 23 (.const a)) 23) e fun a e=>
 RR (aq .len #[23] 3 [false] [a]) e fun a e=>
 RR (sOp (.fieldAddr 25 (.const b) 3) 0) e fun b e=>
 RR (sOp (.load 23 (.const b)) 23) e fun b e=>
 RR (aq .len #[23] 3 [false] [b]) e fun b e=>
 RR (ao .neq 3 false false a b) e fun a b=>
 RR (sOp (.pick (.const d) (.const (.bool true)) (.const a)) 4) b fun a b=>
 c a b) (
 RR (sOp (.pick (.const d) (.const (.bool true)) (.const undef)) 4) e fun a b=>
 c a b))))/\
 ∀ d _ _ _ _ _ _ _ _ _ _ _ _ _ _ _ _ _ _ _ _ _ _ _ _ _ _ _:Value,∀ e:World,c d e->
 CondV d (
 R (.returned (.bool false)) e) (
 (∃ (c:Value->World->Prop) (d:Value->World->Nat),c (.int .i64 0) e/\
 ∀ e _ _ _ f g h i j k l m n o p q r _ _ _ _ _:Value,∀ s:World,c e s->
 RR (sOp (.fieldAddr 25 (.const a) 3) 0) s fun t u=>
 RR (sOp (.load 23 (.const t)) 23) u fun t u=>
 RR (aq .len #[23] 3 [false] [t]) u fun t u=>
 RR (ao .lss 3 false false e t) u fun t u=>
 CondV t (
 (∃ t:(Nat->Bool)->Value->Value->Value->Value->Value->Value->Value->Value->Value->Value->Value->Value->Value->World->Prop,t (fun _=>false) f g h i j k l m n o p q r { u with drawn:=u.drawn+1 }/\(
 (∀ b:Nat->Bool,b 0=false->∀ c d e f g h i j k l m n o p,t b c d e f g h i j k l m n o p->
 RR (sOp (.fieldAddr 25 (.const a) 3) 0) p fun a o=>
 t (aw b 0) c d e f g h i j k l m n a o)/\
 (∀ a:Nat->Bool,a 1=false->a 0=true->∀ b c d e f g h i j k l m n o,t a b c d e f g h i j k l m n o->
 RR (sOp (.load 23 (.const n)) 23) o fun m o=>
 t (aw a 1) b c d e f g h i j k l m n o)/\
 (∀ a:Nat->Bool,a 2=false->∀ b c d f g h i j k l m n o p,t a b c d f g h i j k l m n o p->
 t (aw a 2) b c d f g h i j k l e n o p)/\
 (∀ a:Nat->Bool,a 3=false->a 1=true->a 2=true->∀ b c d e f g h i j k l m n o,t a b c d e f g h i j k l m n o->
 RR (sOp (.indexAddr 23 (.const m) (.const l)) 0) o fun k o=>
 t (aw a 3) b c d e f g h i j k l m n o)/\
 (∀ a:Nat->Bool,a 4=false->a 3=true->∀ b c d e f g h i j k l m n o,t a b c d e f g h i j k l m n o->
 RR (sOp (.load 25 (.const k)) 25) o fun j o=>
 t (aw a 4) b c d e f g h i j k l m n o)/\
 (∀ a:Nat->Bool,a 5=false->∀ c d e f g h i j k l m n o p,t a c d e f g h i j k l m n o p->
 RR (sOp (.fieldAddr 25 (.const b) 3) 0) p fun b j=>
 t (aw a 5) c d e f g h i b k l m n o j)/\
 (∀ a:Nat->Bool,a 6=false->a 5=true->∀ b c d e f g h i j k l m n o,t a b c d e f g h i j k l m n o->
 RR (sOp (.load 23 (.const i)) 23) o fun h o=>
 t (aw a 6) b c d e f g h i j k l m n o)/\
 (∀ a:Nat->Bool,a 7=false->∀ b c d f g h i j k l m n o p,t a b c d f g h i j k l m n o p->
 t (aw a 7) b c d f g e i j k l m n o p)/\
 (∀ a:Nat->Bool,a 8=false->a 6=true->a 7=true->∀ b c d e f g h i j k l m n o,t a b c d e f g h i j k l m n o->
 RR (sOp (.indexAddr 23 (.const h) (.const g)) 0) o fun f o=>
 t (aw a 8) b c d e f g h i j k l m n o)/\
 (∀ a:Nat->Bool,a 9=false->a 8=true->∀ b c d e f g h i j k l m n o,t a b c d e f g h i j k l m n o->
 RR (sOp (.load 25 (.const f)) 25) o fun e o=>
 t (aw a 9) b c d e f g h i j k l m n o)/\
 (∀ a:Nat->Bool,a 10=false->∀ b c d e f g h i j k l m n o,t a b c d e f g h i j k l m n o->
 t (aw a 10) b c p2 e f g h i j k l m n o)/\
 (∀ a:Nat->Bool,a 11=false->a 4=true->a 9=true->a 10=true->∀ b c d e f g h i j k l m n o,t a b c d e f g h i j k l m n o->
 RR (aH (.func (.func 85) #[] #[]) [j,e,d]) o fun c o=>
 t (aw a 11) b c d e f g h i j k l m n o)/\
 (∀ a:Nat->Bool,a 12=false->a 11=true->∀ b c d e f g h i j k l m n o,t a b c d e f g h i j k l m n o->
 RR (sOp (.unOp .not 4 (.const c)) 4) o fun b o=>
 t (aw a 12) b c d e f g h i j k l m n o)/\
 True)/\
 ∀ a:Nat->Bool,a 12=true->a 11=true->a 10=true->a 9=true->a 8=true->a 7=true->a 6=true->a 5=true->a 4=true->a 3=true->a 2=true->a 1=true->a 0=true->∀ b f g h i j k l m n o p q r,t a b f g h i j k l m n o p q r->
 CondV b (
 R (.returned (.bool false)) r) (
 RR (ao .add 3 false true e (.int .i64 1)) r fun a b=>
 c a b/\d a b<d e s))) (
 R (.returned (.bool true)) u)))))
theorem sA {p0 p1 p2:Value} {w:World} {R:Ending->World->Prop} (h:oc p0 p1 p2 w R):Calls Tryz.prog 85 #[p0,p1,p2] w R:=
  aN (.seq none .leaf (.seq none .leaf (.seq none (.seq (some [57]) .leaf .leaf) (.seq none (.seq none .leaf (.one (.loop [7] .leaf))) .leaf)))) [p0,p1,p2] bh Tryz.func85 (by kernel_rfl) (by kernel_rfl) h


/- loop.example/prologserver/impl.scan : function 86 -/
def wS (p0 p1 p2:Value) (w:World) (R:Ending->World->Prop):Prop:=
 RR (sOp (.box 25 (.const p0)) 0) w fun a b=>
 RR (sOp (.box 3 (.const p1)) 0) b fun b c=>
 RR (sOp (.box 91 (.const p2)) 0) c fun c d=>
 RR (sOp (.load 91 (.const c)) 91) d fun d e=>
 RR (sOp (.nilCheck (.const d)) 0) e fun e f=>
 RR (sOp (.load 3 (.const e)) 3) f fun e f=>
 RR (ao .add 3 false true e (.int .i64 1)) f fun e f=>
 RR (sOp (.nilCheck (.const d)) 0) f fun d f=>
 RR (sOp (.store 3 (.const d) (.const e)) 0) f fun _ d=>
 (∃ e:Value->World->Prop,(
 RR (sOp (.load 91 (.const c)) 91) d fun a c=>
 RR (sOp (.nilCheck (.const a)) 0) c fun a c=>
 RR (sOp (.load 3 (.const a)) 3) c fun a c=>
 RR (ao .gtr 3 false true a (.int .i64 120)) c fun a c=>
 ag a false (
 RR (sOp (.load 3 (.const b)) 3) c fun b c=>
 RR (ao .gtr 3 false true b (.int .i64 30)) c fun b c=>
 RR (sOp (.pick (.const a) (.const (.bool true)) (.const b)) 4) c fun a b=>
 e a b) (
 RR (sOp (.pick (.const a) (.const (.bool true)) (.const undef)) 4) c fun a b=>
 e a b))/\
 ∀ d _ _ _ _ _ _ _:Value,∀ f:World,e d f->
 CondV d (
 R (.returned (.bool false)) f) (
 RR (sOp (.fieldAddr 25 (.const a) 0) 0) f fun d e=>
 RR (sOp (.load 3 (.const d)) 3) e fun d e=>
 RR (ao .eql 3 false true d (.int .i64 1)) e fun e f=>
 CondV e (
 RR (sOp (.fieldAddr 25 (.const a) 1) 0) f fun b c=>
 RR (sOp (.load 3 (.const b)) 3) c fun b c=>
 RR (aH (.func (.func 126) #[] #[]) [b,(.int .i64 0),(.int .i64 25)]) c fun b c=>
 ((fun d:VW=>ag b true (
 RR (sOp (.fieldAddr 25 (.const a) 2) 0) c fun a c=>
 RR (sOp (.load 9 (.const a)) 9) c fun a c=>
 RR (ao .eql 9 false true a (.string ⟨#[]⟩)) c fun a c=>
 RR (sOp (.pick (.const b) (.const a) (.const (.bool false))) 4) c fun a b=>d a b) (
 RR (sOp (.pick (.const b) (.const undef) (.const (.bool false))) 4) c fun a b=>d a b)) fun b c=>
 ag b true (
 RR (sOp (.fieldAddr 25 (.const a) 3) 0) c fun a c=>
 RR (sOp (.load 23 (.const a)) 23) c fun a c=>
 RR (aq .len #[23] 3 [false] [a]) c fun a c=>
 RR (ao .eql 3 false true a (.int .i64 0)) c fun a c=>
 RR (sOp (.pick (.const b) (.const a) (.const (.bool false))) 4) c fun a b=>
 R (.returned a) b) (
 RR (sOp (.pick (.const b) (.const undef) (.const (.bool false))) 4) c fun a b=>
 R (.returned a) b))) (
 RR (ao .eql 3 false true d (.int .i64 2)) f fun e f=>
 CondV e (
 RR (sOp (.fieldAddr 25 (.const a) 1) 0) f fun b c=>
 RR (sOp (.load 3 (.const b)) 3) c fun b c=>
 RR (aH (.func (.func 126) #[] #[]) [b,(.int .i64 (-999)),(.int .i64 999)]) c fun b c=>
 ((fun d:VW=>ag b true (
 RR (sOp (.fieldAddr 25 (.const a) 2) 0) c fun a c=>
 RR (sOp (.load 9 (.const a)) 9) c fun a c=>
 RR (ao .eql 9 false true a (.string ⟨#[]⟩)) c fun a c=>
 RR (sOp (.pick (.const b) (.const a) (.const (.bool false))) 4) c fun a b=>d a b) (
 RR (sOp (.pick (.const b) (.const undef) (.const (.bool false))) 4) c fun a b=>d a b)) fun b c=>
 ag b true (
 RR (sOp (.fieldAddr 25 (.const a) 3) 0) c fun a c=>
 RR (sOp (.load 23 (.const a)) 23) c fun a c=>
 RR (aq .len #[23] 3 [false] [a]) c fun a c=>
 RR (ao .eql 3 false true a (.int .i64 0)) c fun a c=>
 RR (sOp (.pick (.const b) (.const a) (.const (.bool false))) 4) c fun a b=>
 R (.returned a) b) (
 RR (sOp (.pick (.const b) (.const undef) (.const (.bool false))) 4) c fun a b=>
 R (.returned a) b))) (
 RR (ao .eql 3 false true d (.int .i64 3)) f fun d e=>
 CondV d (
 (∃ d:Value->World->Prop,(
 RR (sOp (.fieldAddr 25 (.const a) 1) 0) e fun b c=>
 RR (sOp (.load 3 (.const b)) 3) c fun b c=>
 RR (ao .neq 3 false true b (.int .i64 0)) c fun b c=>
 ((fun d:VW=>ag b false (
 RR (sOp (.fieldAddr 25 (.const a) 2) 0) c fun a c=>
 RR (sOp (.load 9 (.const a)) 9) c fun a c=>
 RR (aH (.func (.func 127) #[] #[]) [a]) c fun a c=>
 RR (sOp (.unOp .not 4 (.const a)) 4) c fun a c=>
 RR (sOp (.pick (.const b) (.const (.bool true)) (.const a)) 4) c fun a b=>d a b) (
 RR (sOp (.pick (.const b) (.const (.bool true)) (.const undef)) 4) c fun a b=>d a b)) fun b c=>
 ag b false (
 RR (sOp (.fieldAddr 25 (.const a) 3) 0) c fun a c=>
 RR (sOp (.load 23 (.const a)) 23) c fun a c=>
 RR (aq .len #[23] 3 [false] [a]) c fun a c=>
 RR (ao .gtr 3 false true a (.int .i64 4)) c fun a c=>
 RR (sOp (.pick (.const b) (.const (.bool true)) (.const a)) 4) c fun a b=>
 d a b) (
 RR (sOp (.pick (.const b) (.const (.bool true)) (.const undef)) 4) c fun a b=>
 d a b)))/\
 ∀ e _ _ _ _ _ _ _ _ _ _ _ _ _ _:Value,∀ f:World,d e f->
 CondV e (
 R (.returned (.bool false)) f) (
 RR (sOp (.fieldAddr 25 (.const a) 3) 0) f fun a d=>
 RR (sOp (.load 23 (.const a)) 23) d fun a d=>
 RR (hH (.func 128) [] [b,c]) d fun b c=>
 RR (aH (.func (.func 57) #[] #[]) [a,b]) c fun a b=>
 RR (sOp (.unOp .not 4 (.const a)) 4) b fun a b=>
 R (.returned a) b))) (
 R (.returned (.bool false)) e)))))
theorem yJ {p0 p1 p2:Value} {w:World} {R:Ending->World->Prop} (h:wS p0 p1 p2 w R):Calls Tryz.prog 86 #[p0,p1,p2] w R:=
  aN (.seq none .leaf (.seq none .leaf (.seq none (.seq (some [19]) .leaf .leaf) (.seq none (.seq none .leaf (.one (.seq none .leaf (.two .leaf (.seq none .leaf (.two .leaf (.seq none .leaf (.two (.seq none (.seq (some [70]) .leaf .leaf) .leaf) .leaf)))))))) .leaf)))) [p0,p1,p2] bh Tryz.func86 (by kernel_rfl) (by kernel_rfl) h


/- loop.example/prologserver/spec.ClauseValid : function 96 -/
def jp (p0:Value) (w:World) (R:Ending->World->Prop):Prop:=
 RR (sOp (.box 39 (.const p0)) 0) w fun a b=>
 (∃ (c:Value->World->Prop) (d:Value->World->Nat),c (.int .i64 0) b/\
 ∀ b _ _ _ _ _ _ _ _ _ _ _ _ _ _ _ _ _ _ _:Value,∀ e:World,c b e->
 (∃ f:Value->World->Prop,(
 RR (sOp (.fieldAddr 39 (.const a) 1) 0) e fun a c=>
 RR (sOp (.load 23 (.const a)) 23) c fun a c=>
 RR (aq .len #[23] 3 [false] [a]) c fun a c=>
 RR (ao .lss 3 false false b a) c fun a c=>
 ag a true (
 RR (ao .leq 3 false true b (.int .i64 6)) c fun b c=>
 RR (sOp (.pick (.const a) (.const b) (.const (.bool false))) 4) c fun a b=>
 f a b) (
 RR (sOp (.pick (.const a) (.const undef) (.const (.bool false))) 4) c fun a b=>
 f a b))/\
 ∀ g _ _ _ _ _ _ _ _:Value,∀ h:World,f g h->
 CondV g (
 RR (sOp (.fieldAddr 39 (.const a) 1) 0) h fun a f=>
 RR (sOp (.load 23 (.const a)) 23) f fun a f=>
 RR (sOp (.indexAddr 23 (.const a) (.const b)) 0) f fun a f=>
 RR (sOp (.load 25 (.const a)) 25) f fun a f=>
 RR (aH (.func (.func 134) #[] #[]) [a]) f fun a f=>
 RR (sOp (.unOp .not 4 (.const a)) 4) f fun a f=>
 CondV a (
 R (.returned (.bool false)) f) (
 RR (ao .add 3 false true b (.int .i64 1)) f fun a f=>
 c a f/\d a f<d b e)) (
 RR (sOp (.fieldAddr 39 (.const a) 1) 0) h fun b c=>
 RR (sOp (.load 23 (.const b)) 23) c fun b c=>
 RR (aq .len #[23] 3 [false] [b]) c fun b c=>
 RR (ao .leq 3 false true b (.int .i64 6)) c fun b c=>
 ((fun d:VW=>ag b true (
 RR (sOp (.fieldAddr 39 (.const a) 0) 0) c fun a c=>
 RR (sOp (.load 25 (.const a)) 25) c fun a c=>
 RR (aH (.func (.func 84) #[] #[]) [a]) c fun a c=>
 RR (sOp (.pick (.const b) (.const a) (.const (.bool false))) 4) c fun a b=>d a b) (
 RR (sOp (.pick (.const b) (.const undef) (.const (.bool false))) 4) c fun a b=>d a b)) fun b c=>
 ag b true (
 RR (sOp (.fieldAddr 39 (.const a) 0) 0) c fun a c=>
 RR (sOp (.load 25 (.const a)) 25) c fun a c=>
 RR (aH (.func (.func 135) #[] #[]) [a]) c fun a c=>
 RR (sOp (.pick (.const b) (.const a) (.const (.bool false))) 4) c fun a b=>
 R (.returned a) b) (
 RR (sOp (.pick (.const b) (.const undef) (.const (.bool false))) 4) c fun a b=>
 R (.returned a) b)))))
theorem mo {p0:Value} {w:World} {R:Ending->World->Prop} (h:jp p0 w R):Calls Tryz.prog 96 #[p0] w R:=
  aN (.seq none .leaf (.seq none (.seq none .leaf (.one (.loop [3] (.seq none (.seq (some [12]) .leaf .leaf) .leaf)))) .leaf)) [p0] bh Tryz.func96 (by kernel_rfl) (by kernel_rfl) h


/- loop.example/prologserver/spec.l16Flat : function 97 -/
def pg (p0:Value) (w:World) (R:Ending->World->Prop):Prop:=
 RR (sOp (.box 25 (.const p0)) 0) w fun a b=>
 (∃ (c:Value->World->Prop) (d:Value->World->Nat),c (.int .i64 0) b/\
 ∀ b _ _ _ _ _ _ _ _ _ _ _ _ _ _ _ _:Value,∀ e:World,c b e->
 RR (sOp (.fieldAddr 25 (.const a) 3) 0) e fun f g=>
 RR (sOp (.load 23 (.const f)) 23) g fun f g=>
 RR (aq .len #[23] 3 [false] [f]) g fun f g=>
 RR (ao .lss 3 false false b f) g fun f g=>
 CondV f (
 RR (sOp (.fieldAddr 25 (.const a) 3) 0) g fun a f=>
 RR (sOp (.load 23 (.const a)) 23) f fun a f=>
 RR (sOp (.indexAddr 23 (.const a) (.const b)) 0) f fun a f=>
 RR (sOp (.fieldAddr 25 (.const a) 3) 0) f fun a f=>
 RR (sOp (.load 23 (.const a)) 23) f fun a f=>
 RR (aq .len #[23] 3 [false] [a]) f fun a f=>
 RR (ao .gtr 3 false true a (.int .i64 0)) f fun a f=>
 CondV a (
 R (.returned (.bool false)) f) (
 RR (ao .add 3 false true b (.int .i64 1)) f fun a f=>
 c a f/\d a f<d b e)) (
 RR (sOp (.load 25 (.const a)) 25) g fun a b=>
 RR (aH (.func (.func 135) #[] #[]) [a]) b fun a b=>
 R (.returned a) b))
theorem sk {p0:Value} {w:World} {R:Ending->World->Prop} (h:pg p0 w R):Calls Tryz.prog 97 #[p0] w R:=
  aN (.seq none .leaf (.seq none (.seq none .leaf (.one (.loop [3] .leaf))) .leaf)) [p0] bh Tryz.func97 (by kernel_rfl) (by kernel_rfl) h


/- loop.example/prologserver/spec.l1Vars : function 98 -/
def rG (p0 p1:Value) (w:World) (R:Ending->World->Prop):Prop:=
 RR (sOp (.box 25 (.const p1)) 0) w fun a b=>
 RR (sOp (.fieldAddr 25 (.const a) 0) 0) b fun b c=>
 RR (sOp (.load 3 (.const b)) 3) c fun b c=>
 RR (ao .eql 3 false true b (.int .i64 1)) c fun b c=>
 CondV b (
 (∃ (b:Value->World->Prop) (d:Value->World->Nat),b (.int .i64 0) c/\
 ∀ c _ _ _ _ e f g h i j k _ _ _ _:Value,∀ l:World,b c l->
 RR (aq .len #[71] 3 [false] [p0]) l fun m n=>
 RR (ao .lss 3 false false c m) n fun m n=>
 CondV m (
 (∃ m:(Nat->Bool)->Value->Value->Value->Value->Value->Value->Value->World->Prop,m (fun _=>false) e f g h i j k { n with drawn:=n.drawn+1 }/\(
 (∀ a:Nat->Bool,a 0=false->∀ b c d e f g h i,m a b c d e f g h i->
 m (aw a 0) b c d e f g p0 i)/\
 (∀ a:Nat->Bool,a 1=false->∀ b d e f g h i j,m a b d e f g h i j->
 m (aw a 1) b d e f g c i j)/\
 (∀ a:Nat->Bool,a 2=false->a 0=true->a 1=true->∀ b c d e f g h i,m a b c d e f g h i->
 RR (sOp (.indexAddr 71 (.const h) (.const g)) 0) i fun f i=>
 m (aw a 2) b c d e f g h i)/\
 (∀ a:Nat->Bool,a 3=false->a 2=true->∀ b c d e f g h i,m a b c d e f g h i->
 RR (sOp (.load 3 (.const f)) 3) i fun e i=>
 m (aw a 3) b c d e f g h i)/\
 (∀ b:Nat->Bool,b 4=false->∀ c d e f g h i j,m b c d e f g h i j->
 RR (sOp (.fieldAddr 25 (.const a) 1) 0) j fun a e=>
 m (aw b 4) c d a f g h i e)/\
 (∀ a:Nat->Bool,a 5=false->a 4=true->∀ b c d e f g h i,m a b c d e f g h i->
 RR (sOp (.load 3 (.const d)) 3) i fun c i=>
 m (aw a 5) b c d e f g h i)/\
 (∀ a:Nat->Bool,a 6=false->a 3=true->a 5=true->∀ b c d e f g h i,m a b c d e f g h i->
 RR (ao .eql 3 false false e c) i fun b i=>
 m (aw a 6) b c d e f g h i)/\
 True)/\
 ∀ a:Nat->Bool,a 6=true->a 5=true->a 4=true->a 3=true->a 2=true->a 1=true->a 0=true->∀ e f g h i j k n,m a e f g h i j k n->
 CondV e (
 R (.returned p0) n) (
 RR (ao .add 3 false true c (.int .i64 1)) n fun a e=>
 b a e/\d a e<d c l))) (
 RR (sOp (.fieldAddr 25 (.const a) 1) 0) n fun a b=>
 RR (sOp (.load 3 (.const a)) 3) b fun a b=>
 RR (aW 71 1 [(0,a)]) b fun a b=>
 RR (aq .append #[71,71] 71 [false,false] [p0,a]) b fun a b=>
 R (.returned a) b))) (
 (∃ (b:Value->Value->World->Prop) (d:Value->Value->World->Nat),b (.int .i64 0) p0 c/\
 ∀ c _ _ e _ _ _ _ _ _ _ _ _ _ _ _:Value,∀ f:World,b c e f->
 RR (sOp (.fieldAddr 25 (.const a) 3) 0) f fun g h=>
 RR (sOp (.load 23 (.const g)) 23) h fun g h=>
 RR (aq .len #[23] 3 [false] [g]) h fun g h=>
 RR (ao .lss 3 false false c g) h fun g h=>
 CondV g (
 RR (sOp (.fieldAddr 25 (.const a) 3) 0) h fun a g=>
 RR (sOp (.load 23 (.const a)) 23) g fun a g=>
 RR (sOp (.indexAddr 23 (.const a) (.const c)) 0) g fun a g=>
 RR (sOp (.load 25 (.const a)) 25) g fun a g=>
 RR (aH (.func (.func 98) #[] #[]) [e,a]) g fun a g=>
 RR (ao .add 3 false true c (.int .i64 1)) g fun g h=>
 b g a h/\d g a h<d c e f) (
 R (.returned e) h)))
theorem uB {p0 p1:Value} {w:World} {R:Ending->World->Prop} (h:rG p0 p1 w R):Calls Tryz.prog 98 #[p0,p1] w R:=
  aN (.seq none .leaf (.seq none (.seq none .leaf (.two (.seq none (.seq none .leaf (.one (.loop [5] .leaf))) .leaf) .leaf)) (.seq none (.seq none .leaf (.one (.loop [6,0] .leaf))) .leaf))) [p0,p1] bh Tryz.func98 (by kernel_rfl) (by kernel_rfl) h


/- loop.example/prologserver/spec.l16In : function 99 -/
def uP (p0 p1:Value) (w:World) (R:Ending->World->Prop):Prop:=
 (∃ (a:Value->World->Prop) (b:Value->World->Nat),a (.int .i64 0) w/\
 ∀ c _ _ _ _ _ _ _ _ _ _ _ _ _:Value,∀ d:World,a c d->
 RR (aq .len #[71] 3 [false] [p0]) d fun e f=>
 RR (ao .lss 3 false false c e) f fun e f=>
 CondV e (
 RR (sOp (.indexAddr 71 (.const p0) (.const c)) 0) f fun e f=>
 RR (sOp (.load 3 (.const e)) 3) f fun e f=>
 RR (ao .eql 3 false false e p1) f fun e f=>
 CondV e (
 R (.returned (.bool true)) f) (
 RR (ao .add 3 false true c (.int .i64 1)) f fun e f=>
 a e f/\b e f<b c d)) (
 R (.returned (.bool false)) f))
theorem vP {p0 p1:Value} {w:World} {R:Ending->World->Prop} (h:uP p0 p1 w R):Calls Tryz.prog 99 #[p0,p1] w R:=
  aN (.seq none .leaf (.seq none (.seq none .leaf (.one (.loop [5] .leaf))) .leaf)) [p0,p1] bh Tryz.func99 (by kernel_rfl) (by kernel_rfl) h


/- loop.example/prologserver/spec.l16Round : function 100 -/
def mV (p0 p1:Value) (w:World) (R:Ending->World->Prop):Prop:=
 (∃ (a:Value->Value->World->Prop) (b:Value->Value->World->Nat),a (.int .i64 0) p1 w/\
 ∀ c _ _ d e f g h i j k l _ _ _ _:Value,∀ m:World,a c d m->
 RR (aq .len #[32] 3 [false] [p0]) m fun n o=>
 RR (ao .lss 3 false false c n) o fun n o=>
 CondV n (
 (∃ n:(Nat->Bool)->Value->Value->Value->Value->Value->Value->Value->Value->Value->World->Prop,n (fun _=>false) d e f g h i j k l { o with drawn:=o.drawn+1 }/\(
 (∀ a:Nat->Bool,a 0=false->∀ b c d e f g h i j k,n a b c d e f g h i j k->
 n (aw a 0) b c d e f g h i b k)/\
 (∀ a:Nat->Bool,a 1=false->∀ b c d e f g h i j k,n a b c d e f g h i j k->
 n (aw a 1) b c d e f g h p0 j k)/\
 (∀ a:Nat->Bool,a 2=false->∀ b d e f g h i j k l,n a b d e f g h i j k l->
 n (aw a 2) b d e f g h c j k l)/\
 (∀ a:Nat->Bool,a 3=false->a 1=true->a 2=true->∀ b c d e f g h i j k,n a b c d e f g h i j k->
 RR (sOp (.indexAddr 32 (.const i) (.const h)) 0) k fun g k=>
 n (aw a 3) b c d e f g h i j k)/\
 (∀ a:Nat->Bool,a 4=false->a 3=true->∀ b c d e f g h i j k,n a b c d e f g h i j k->
 RR (sOp (.load 39 (.const g)) 39) k fun f k=>
 n (aw a 4) b c d e f g h i j k)/\
 (∀ a:Nat->Bool,a 5=false->∀ b c d e f g h i j k,n a b c d e f g h i j k->
 n (aw a 5) b c d p1 f g h i j k)/\
 (∀ a:Nat->Bool,a 6=false->∀ b c d e f g h i j k,n a b c d e f g h i j k->
 RR (sOp (.makeSlice 23 (.const (.int .i64 26)) (.const (.int .i64 26))) 23) k fun d k=>
 n (aw a 6) b c d e f g h i j k)/\
 (∀ a:Nat->Bool,a 7=false->a 0=true->a 4=true->a 5=true->a 6=true->∀ b c d e f g h i j k,n a b c d e f g h i j k->
 RR (aH (.func (.func 71) #[] #[]) [j,f,(.int .i64 0),e,d]) k fun c k=>
 n (aw a 7) b c d e f g h i j k)/\
 (∀ a:Nat->Bool,a 8=false->a 7=true->a 7=true->a 0=true->a 1=true->a 2=true->a 3=true->a 4=true->a 5=true->a 6=true->a 7=true->∀ b c d e f g h i j k,n a b c d e f g h i j k->
 n (aw a 8) c c d e f g h i j k)/\
 True)/\
 ∀ e:Nat->Bool,e 8=true->e 7=true->e 6=true->e 5=true->e 4=true->e 3=true->e 2=true->e 1=true->e 0=true->∀ f g h i j k l o p q,n e f g h i j k l o p q->
 RR (ao .add 3 false true c (.int .i64 1)) q fun e g=>
 a e f g/\b e f g<b c d m)) (
 R (.returned d) o))
theorem qB {p0 p1:Value} {w:World} {R:Ending->World->Prop} (h:mV p0 p1 w R):Calls Tryz.prog 100 #[p0,p1] w R:=
  aN (.seq none .leaf (.seq none .leaf (.seq none (.seq none .leaf (.one (.loop [6,5] .leaf))) .leaf))) [p0,p1] bh Tryz.func100 (by kernel_rfl) (by kernel_rfl) h


/- loop.example/prologserver/impl.isLetters : function 101 -/
def lO (p0:Value) (w:World) (R:Ending->World->Prop):Prop:=
 RR (aq .len #[9] 3 [false] [p0]) w fun a b=>
 (∃ (c:Value->World->Prop) (d:Value->World->Nat),c (.int .i64 0) b/\
 ∀ b _ _ _ _ _ _ _ _ _ _ _ _ _ _ _:Value,∀ e:World,c b e->
 RR (ao .lss 3 false false b a) e fun a f=>
 CondV a (
 (∃ a:Value->World->Prop,(
 RR (sOp (.index 9 (.const p0) (.const b)) 5) f fun c d=>
 RR (ao .lss 5 false true c (.int .u8 97)) d fun c d=>
 ag c false (
 RR (sOp (.index 9 (.const p0) (.const b)) 5) d fun b d=>
 RR (ao .gtr 5 false true b (.int .u8 122)) d fun b d=>
 RR (sOp (.pick (.const c) (.const (.bool true)) (.const b)) 4) d fun b c=>
 a b c) (
 RR (sOp (.pick (.const c) (.const (.bool true)) (.const undef)) 4) d fun b c=>
 a b c))/\
 ∀ f _ _ _ _ _ _ _ _ _:Value,∀ g:World,a f g->
 CondV f (
 R (.returned (.bool false)) g) (
 RR (ao .add 3 false true b (.int .i64 1)) g fun a f=>
 c a f/\d a f<d b e))) (
 RR (aq .len #[9] 3 [false] [p0]) f fun a b=>
 RR (aH (.func (.func 126) #[] #[]) [a,(.int .i64 1),(.int .i64 6)]) b fun a b=>
 R (.returned a) b))
theorem po {p0:Value} {w:World} {R:Ending->World->Prop} (h:lO p0 w R):Calls Tryz.prog 101 #[p0] w R:=
  aN (.seq none .leaf (.seq none (.seq none .leaf (.one (.loop [6] (.seq none .leaf (.seq none .leaf (.seq none (.one (.seq none .leaf (.seq (some [18]) .leaf .leaf))) .leaf)))))) .leaf)) [p0] bh Tryz.func101 (by kernel_rfl) (by kernel_rfl) h


/- slices.Index[[]string,string] : function 104 -/
def iV (p0 p1:Value) (w:World) (R:Ending->World->Prop):Prop:=
 RR (aq .len #[67] 3 [false] [p0]) w fun a b=>
 (∃ (c:Value->World->Prop) (d:Value->World->Nat),c (.int .i64 0) b/\
 ∀ b _ _ _ _ _ _ _ _ _ _ _ _:Value,∀ e:World,c b e->
 RR (ao .lss 3 false false b a) e fun a f=>
 CondV a (
 RR (sOp (.indexAddr 67 (.const p0) (.const b)) 0) f fun a f=>
 RR (sOp (.load 9 (.const a)) 9) f fun a f=>
 RR (ao .eql 9 false false p1 a) f fun a f=>
 CondV a (
 R (.returned b) f) (
 RR (ao .add 3 false true b (.int .i64 1)) f fun a f=>
 c a f/\d a f<d b e)) (
 R (.returned (.int .i64 (-1))) f))
theorem lh {p0 p1:Value} {w:World} {R:Ending->World->Prop} (h:iV p0 p1 w R):Calls Tryz.prog 104 #[p0,p1] w R:=
  aN (.seq none .leaf (.seq none (.seq none .leaf (.one (.loop [8] .leaf))) .leaf)) [p0,p1] bh Tryz.func104 (by kernel_rfl) (by kernel_rfl) h


/- loop.example/prologserver/spec.l16Put : function 115 -/
def qJ (p0 p1:Value) (w:World) (R:Ending->World->Prop):Prop:=
 RR (sOp (.box 25 (.const p1)) 0) w fun a b=>
 (∃ (c:Value->World->Prop) (d:Value->World->Nat),c (.int .i64 0) b/\
 ∀ b _ _ e f g h i j k l m n o p q:Value,∀ r:World,c b r->
 (∃ s:(Nat->Bool)->Value->Value->Value->Value->Value->Value->Value->Value->Value->Value->Value->Value->Value->World->Prop,s (fun _=>false) e f g h i j k l m n o p q { r with drawn:=r.drawn+1 }/\(
 (∀ a:Nat->Bool,a 0=false->∀ c d e f g h i j k l m n o p,s a c d e f g h i j k l m n o p->
 s (aw a 0) c d e f g h i j k l m n b p)/\
 (∀ a:Nat->Bool,a 1=false->∀ b c d e f g h i j k l m n o,s a b c d e f g h i j k l m n o->
 s (aw a 1) b c d e f g h i j k l p0 n o)/\
 (∀ a:Nat->Bool,a 2=false->a 1=true->∀ b c d e f g h i j k l m n o,s a b c d e f g h i j k l m n o->
 RR (aq .len #[23] 3 [false] [m]) o fun l o=>
 s (aw a 2) b c d e f g h i j k l m n o)/\
 (∀ a:Nat->Bool,a 3=false->a 0=true->a 2=true->∀ b c d e f g h i j k l m n o,s a b c d e f g h i j k l m n o->
 RR (ao .lss 3 false false n l) o fun k o=>
 s (aw a 3) b c d e f g h i j k l m n o)/\
 (∀ a:Nat->Bool,a 4=false->a 3=true->∀ b c d e f g h i j k l m n o,s a b c d e f g h i j k l m n o->
 s (aw a 4) b c d e f g h i k k l m n o)/\
 (∀ a:Nat->Bool,a 5=false->a 4=true->∀ b c d e f g h i j k l m n o,s a b c d e f g h i j k l m n o->
 ag j true (s (aw a 5) b c d e f g h p0 j k l m n o) (s (aw a 5) b c d e f g h undef j k l m n o))/\
 (∀ a:Nat->Bool,a 6=false->a 4=true->∀ c d e f g h i j k l m n o p,s a c d e f g h i j k l m n o p->
 ag k true (s (aw a 6) c d e f g h b j k l m n o p) (s (aw a 6) c d e f g h undef j k l m n o p))/\
 (∀ a:Nat->Bool,a 7=false->a 5=true->a 6=true->a 4=true->∀ b c d e f g h i j k l m n o,s a b c d e f g h i j k l m n o->
 ag j true (RR (sOp (.indexAddr 23 (.const i) (.const h)) 0) o fun g o=>
 s (aw a 7) b c d e f g h i j k l m n o) (s (aw a 7) b c d e f undef h i j k l m n o))/\
 (∀ a:Nat->Bool,a 8=false->a 7=true->a 4=true->∀ b c d e f g h i j k l m n o,s a b c d e f g h i j k l m n o->
 ag j true (RR (sOp (.load 25 (.const g)) 25) o fun f o=>
 s (aw a 8) b c d e f g h i j k l m n o) (s (aw a 8) b c d e undef g h i j k l m n o))/\
 (∀ b:Nat->Bool,b 9=false->b 4=true->∀ c d e f g h i j k l m n o p,s b c d e f g h i j k l m n o p->
 ag k true (RR (sOp (.load 25 (.const a)) 25) p fun a f=>
 s (aw b 9) c d e a g h i j k l m n o f) (s (aw b 9) c d e undef g h i j k l m n o p))/\
 (∀ a:Nat->Bool,a 10=false->a 8=true->a 9=true->a 4=true->a 4=true->∀ b c d e f g h i j k l m n o,s a b c d e f g h i j k l m n o->
 ag j true (RR (aH (.func (.func 145) #[] #[]) [f,e]) o fun d o=>
 s (aw a 10) b c d e f g h i j k l m n o) (s (aw a 10) b c undef e f g h i j k l m n o))/\
 (∀ a:Nat->Bool,a 11=false->a 10=true->a 4=true->∀ b c d e f g h i j k l m n o,s a b c d e f g h i j k l m n o->
 ag j true (RR (ao .lss 3 false true d (.int .i64 0)) o fun c o=>
 s (aw a 11) b c d e f g h i j k l m n o) (s (aw a 11) b undef d e f g h i j k l m n o))/\
 (∀ a:Nat->Bool,a 12=false->a 4=true->a 11=true->∀ b c d e f g h i j k l m n o,s a b c d e f g h i j k l m n o->
 RR (sOp (.pick (.const j) (.const c) (.const (.bool false))) 4) o fun b o=>
 s (aw a 12) b c d e f g h i j k l m n o)/\
 True)/\
 ∀ e:Nat->Bool,e 12=true->e 11=true->e 10=true->e 9=true->e 8=true->e 7=true->e 6=true->e 5=true->e 4=true->e 3=true->e 2=true->e 1=true->e 0=true->∀ f g h i j k l m n o p q t u,s e f g h i j k l m n o p q t u->
 CondV f (
 RR (ao .add 3 false true b (.int .i64 1)) u fun a e=>
 c a e/\d a e<d b r) (
 (∃ c:(Nat->Bool)->Value->Value->Value->Value->Value->Value->Value->Value->Value->Value->Value->Value->World->Prop,c (fun _=>false) undef undef undef undef undef undef undef undef undef undef undef undef { u with drawn:=u.drawn+1 }/\(
 (∀ a:Nat->Bool,a 0=false->∀ d e f g h i j k l m n o p,c a d e f g h i j k l m n o p->
 c (aw a 0) d e f g h i j k l m n b p)/\
 (∀ a:Nat->Bool,a 1=false->∀ b d e f g h i j k l m n o,c a b d e f g h i j k l m n o->
 c (aw a 1) b d e f g h i j k l p0 n o)/\
 (∀ a:Nat->Bool,a 2=false->a 1=true->∀ b d e f g h i j k l m n o,c a b d e f g h i j k l m n o->
 RR (aq .len #[23] 3 [false] [m]) o fun l o=>
 c (aw a 2) b d e f g h i j k l m n o)/\
 (∀ a:Nat->Bool,a 3=false->a 0=true->a 2=true->∀ b d e f g h i j k l m n o,c a b d e f g h i j k l m n o->
 RR (ao .lss 3 false false n l) o fun k o=>
 c (aw a 3) b d e f g h i j k l m n o)/\
 (∀ a:Nat->Bool,a 4=false->a 3=true->∀ b d e f g h i j k l m n o,c a b d e f g h i j k l m n o->
 c (aw a 4) b d e f g h i k k l m n o)/\
 (∀ a:Nat->Bool,a 5=false->a 4=true->∀ b d e f g h i j k l m n o,c a b d e f g h i j k l m n o->
 ag j true (c (aw a 5) b d e f g h p0 j k l m n o) (c (aw a 5) b d e f g h undef j k l m n o))/\
 (∀ a:Nat->Bool,a 6=false->a 4=true->∀ d e f g h i j k l m n o p,c a d e f g h i j k l m n o p->
 ag k true (c (aw a 6) d e f g h b j k l m n o p) (c (aw a 6) d e f g h undef j k l m n o p))/\
 (∀ a:Nat->Bool,a 7=false->a 5=true->a 6=true->a 4=true->∀ b d e f g h i j k l m n o,c a b d e f g h i j k l m n o->
 ag j true (RR (sOp (.indexAddr 23 (.const i) (.const h)) 0) o fun g o=>
 c (aw a 7) b d e f g h i j k l m n o) (c (aw a 7) b d e f undef h i j k l m n o))/\
 (∀ a:Nat->Bool,a 8=false->a 7=true->a 4=true->∀ b d e f g h i j k l m n o,c a b d e f g h i j k l m n o->
 ag j true (RR (sOp (.load 25 (.const g)) 25) o fun f o=>
 c (aw a 8) b d e f g h i j k l m n o) (c (aw a 8) b d e undef g h i j k l m n o))/\
 (∀ b:Nat->Bool,b 9=false->b 4=true->∀ d e f g h i j k l m n o p,c b d e f g h i j k l m n o p->
 ag k true (RR (sOp (.load 25 (.const a)) 25) p fun a f=>
 c (aw b 9) d e a g h i j k l m n o f) (c (aw b 9) d e undef g h i j k l m n o p))/\
 (∀ a:Nat->Bool,a 10=false->a 8=true->a 9=true->a 4=true->a 4=true->∀ b d e f g h i j k l m n o,c a b d e f g h i j k l m n o->
 ag j true (RR (aH (.func (.func 118) #[] #[]) [f,e]) o fun d o=>
 c (aw a 10) b d e f g h i j k l m n o) (c (aw a 10) b undef e f g h i j k l m n o))/\
 (∀ a:Nat->Bool,a 11=false->a 4=true->a 10=true->∀ b d e f g h i j k l m n o,c a b d e f g h i j k l m n o->
 RR (sOp (.pick (.const j) (.const d) (.const (.bool false))) 4) o fun b o=>
 c (aw a 11) b d e f g h i j k l m n o)/\
 True)/\
 ∀ d:Nat->Bool,d 11=true->d 10=true->d 9=true->d 8=true->d 7=true->d 6=true->d 5=true->d 4=true->d 3=true->d 2=true->d 1=true->d 0=true->∀ e f g h i j k l m n o p q,c d e f g h i j k l m n o p q->
 CondV e (
 R (.returned p0) q) (
 RR (aW 23 0 []) q fun c d=>
 RR (sOp (.slice 23 (.const p0) none (some (.const b)) none) 23) d fun d e=>
 RR (aq .append #[23,23] 23 [false,false] [c,d]) e fun c d=>
 RR (sOp (.load 25 (.const a)) 25) d fun a d=>
 RR (aW 23 1 [(0,a)]) d fun a d=>
 RR (aq .append #[23,23] 23 [false,false] [c,a]) d fun a c=>
 RR (sOp (.slice 23 (.const p0) (some (.const b)) none none) 23) c fun b c=>
 RR (aq .append #[23,23] 23 [false,false] [a,b]) c fun a b=>
 R (.returned a) b)))))
theorem tu {p0 p1:Value} {w:World} {R:Ending->World->Prop} (h:qJ p0 p1 w R):Calls Tryz.prog 115 #[p0,p1] w R:=
  aN (.seq none .leaf (.seq none .leaf (.seq none (.one (.loop [5] .leaf)) .leaf))) [p0,p1] bh Tryz.func115 (by kernel_rfl) (by kernel_rfl) h


/- loop.example/prologserver/spec.l16Full : function 116 -/
def oP (p0 p1:Value) (w:World) (R:Ending->World->Prop):Prop:=
 RR (sOp (.box 25 (.const p0)) 0) w fun a b=>
 RR (sOp (.alloc 25) 0) b fun b c=>
 RR (sOp (.fieldAddr 25 (.const a) 0) 0) c fun c d=>
 RR (sOp (.load 3 (.const c)) 3) d fun c d=>
 RR (sOp (.fieldAddr 25 (.const a) 2) 0) d fun d e=>
 RR (sOp (.load 9 (.const d)) 9) e fun d e=>
 RR (cK 25 [(0,c),(2,d)]) e fun c d=>
 RR (sOp (.alloc 25) 0) d fun d e=>
 RR (sOp (.store 25 (.const d) (.const c)) 0) e fun _ c=>
 (∃ (e:Value->World->Prop) (f:Value->World->Nat),e (.int .i64 0) c/\
 ∀ c _ _ g h i j k l m _ _ _ _ _ _ _ _ _ _ _ _ _ _ _ _ _ _ _:Value,∀ n:World,e c n->
 RR (sOp (.fieldAddr 25 (.const a) 3) 0) n fun o p=>
 RR (sOp (.load 23 (.const o)) 23) p fun o p=>
 RR (aq .len #[23] 3 [false] [o]) p fun o p=>
 RR (ao .lss 3 false false c o) p fun o p=>
 CondV o (
 RR (sOp (.fieldAddr 25 (.const a) 3) 0) p fun a b=>
 RR (sOp (.load 23 (.const a)) 23) b fun a b=>
 RR (sOp (.indexAddr 23 (.const a) (.const c)) 0) b fun a b=>
 RR (sOp (.load 25 (.const a)) 25) b fun a b=>
 RR (sOp (.alloc 25) 0) b fun b o=>
 RR (sOp (.store 25 (.const b) (.const a)) 0) o fun _ a=>
 (∃ o:World->Prop,(
 RR (sOp (.fieldAddr 25 (.const b) 0) 0) a fun a c=>
 RR (sOp (.load 3 (.const a)) 3) c fun a c=>
 RR (ao .eql 3 false true a (.int .i64 1)) c fun a c=>
 CondV a (
 RR (sOp (.fieldAddr 25 (.const b) 1) 0) c fun a c=>
 RR (sOp (.load 3 (.const a)) 3) c fun a c=>
 RR (sOp (.indexAddr 23 (.const p1) (.const a)) 0) c fun a c=>
 RR (sOp (.load 25 (.const a)) 25) c fun a c=>
 RR (sOp (.store 25 (.const b) (.const a)) 0) c fun _ a=>
 o a) (
 o c))/\
 ∀ _ _ _ _ _ _ _ _:Value,∀ a:World,o a->
 (∃ o:(Nat->Bool)->Value->Value->Value->Value->Value->Value->Value->World->Prop,o (fun _=>false) g h i j k l m { a with drawn:=a.drawn+1 }/\(
 (∀ a:Nat->Bool,a 0=false->∀ b c e f g h i j,o a b c e f g h i j->
 RR (sOp (.fieldAddr 25 (.const d) 3) 0) j fun d i=>
 o (aw a 0) b c e f g h d i)/\
 (∀ a:Nat->Bool,a 1=false->a 0=true->∀ b c d e f g h i,o a b c d e f g h i->
 RR (sOp (.load 23 (.const h)) 23) i fun g i=>
 o (aw a 1) b c d e f g h i)/\
 (∀ a:Nat->Bool,a 2=false->∀ c d e f g h i j,o a c d e f g h i j->
 RR (sOp (.load 25 (.const b)) 25) j fun b g=>
 o (aw a 2) c d e f b h i g)/\
 (∀ a:Nat->Bool,a 3=false->a 2=true->∀ b c d e f g h i,o a b c d e f g h i->
 RR (aH (.func (.func 42) #[] #[]) [f]) i fun e i=>
 o (aw a 3) b c d e f g h i)/\
 (∀ a:Nat->Bool,a 4=false->a 3=true->∀ b c d e f g h i,o a b c d e f g h i->
 RR (aW 23 1 [(0,e)]) i fun d i=>
 o (aw a 4) b c d e f g h i)/\
 (∀ a:Nat->Bool,a 5=false->a 1=true->a 4=true->a 3=true->∀ b c d e f g h i,o a b c d e f g h i->
 RR (aq .append #[23,23] 23 [false,false] [g,d]) i fun c i=>
 o (aw a 5) b c d e f g h i)/\
 (∀ a:Nat->Bool,a 6=false->a 0=true->a 1=true->a 2=true->a 3=true->a 4=true->a 5=true->∀ b c e f g h i j,o a b c e f g h i j->
 RR (sOp (.fieldAddr 25 (.const d) 3) 0) j fun b d=>
 o (aw a 6) b c e f g h i d)/\
 (∀ a:Nat->Bool,a 7=false->a 6=true->a 5=true->a 5=true->a 0=true->a 1=true->a 2=true->a 3=true->a 4=true->a 5=true->∀ b c d e f g h i,o a b c d e f g h i->
 RR (sOp (.store 23 (.const b) (.const c)) 0) i fun _ i=>
 o (aw a 7) b c d e f g h i)/\
 True)/\
 ∀ a:Nat->Bool,a 7=true->a 6=true->a 5=true->a 4=true->a 3=true->a 2=true->a 1=true->a 0=true->∀ b d g h i j k l,o a b d g h i j k l->
 RR (ao .add 3 false true c (.int .i64 1)) l fun a b=>
 e a b/\f a b<f c n))) (
 RR (sOp (.load 25 (.const d)) 25) p fun a c=>
 RR (sOp (.store 25 (.const b) (.const a)) 0) c fun _ a=>
 (a4 Tryz.prog 25 b a fun b=>R (.returned b) a)))
theorem sb {p0 p1:Value} {w:World} {R:Ending->World->Prop} (h:oP p0 p1 w R):Calls Tryz.prog 116 #[p0,p1] w R:=
  aN (.seq none .leaf (.seq none .leaf (.seq none (.seq none .leaf (.one (.loop [6] (.seq none .leaf (.seq none (.one (.seq none .leaf (.seq (some []) .leaf .leaf))) .leaf))))) .leaf))) [p0,p1] bh Tryz.func116 (by kernel_rfl) (by kernel_rfl) h


/- loop.example/prologserver/spec.l16Match : function 117 -/
def mS (p0 p1 p2:Value) (w:World) (R:Ending->World->Prop):Prop:=
 RR (sOp (.box 25 (.const p0)) 0) w fun a b=>
 RR (sOp (.box 25 (.const p1)) 0) b fun b c=>
 RR (aW 23 0 []) c fun c d=>
 RR (aq .append #[23,23] 23 [false,false] [c,p2]) d fun c d=>
 RR (sOp (.load 25 (.const a)) 25) d fun a d=>
 RR (sOp (.load 25 (.const b)) 25) d fun b d=>
 RR (aH (.func (.func 85) #[] #[]) [a,b,c]) d fun a b=>
 R (.returned (.tuple #[c,a])) b
theorem qE {p0 p1 p2:Value} {w:World} {R:Ending->World->Prop} (h:mS p0 p1 p2 w R):Calls Tryz.prog 117 #[p0,p1,p2] w R:=
  aN .leaf [p0,p1,p2] bh Tryz.func117 (by kernel_rfl) (by kernel_rfl) h


/- loop.example/prologserver/spec.TermSame : function 118 -/
def mN (p0 p1:Value) (w:World) (R:Ending->World->Prop):Prop:=
 RR (sOp (.box 25 (.const p0)) 0) w fun a b=>
 RR (sOp (.box 25 (.const p1)) 0) b fun b c=>
 (∃ d:Value->World->Prop,(
 RR (sOp (.fieldAddr 25 (.const a) 0) 0) c fun c e=>
 RR (sOp (.load 3 (.const c)) 3) e fun c e=>
 RR (sOp (.fieldAddr 25 (.const b) 0) 0) e fun e f=>
 RR (sOp (.load 3 (.const e)) 3) f fun e f=>
 RR (ao .neq 3 false false c e) f fun c e=>
 ((fun d:VW=>ag c false (
 RR (sOp (.fieldAddr 25 (.const a) 1) 0) e fun a e=>
 RR (sOp (.load 3 (.const a)) 3) e fun a e=>
 RR (sOp (.fieldAddr 25 (.const b) 1) 0) e fun b e=>
 RR (sOp (.load 3 (.const b)) 3) e fun b e=>
 RR (ao .neq 3 false false a b) e fun a b=>
 RR (sOp (.pick (.const c) (.const (.bool true)) (.const a)) 4) b fun a b=>d a b) (
 RR (sOp (.pick (.const c) (.const (.bool true)) (.const undef)) 4) e fun a b=>d a b)) fun c e=>
 ((fun d:VW=>ag c false (
 RR (sOp (.fieldAddr 25 (.const a) 2) 0) e fun a e=>
 RR (sOp (.load 9 (.const a)) 9) e fun a e=>
 RR (sOp (.fieldAddr 25 (.const b) 2) 0) e fun b e=>
 RR (sOp (.load 9 (.const b)) 9) e fun b e=>
 RR (ao .neq 9 false false a b) e fun a b=>
 RR (sOp (.pick (.const c) (.const (.bool true)) (.const a)) 4) b fun a b=>d a b) (
 RR (sOp (.pick (.const c) (.const (.bool true)) (.const undef)) 4) e fun a b=>d a b)) fun c e=>
 ag c false (
 RR (sOp (.fieldAddr 25 (.const a) 3) 0) e fun a e=>
 RR (sOp (.load 23 (.const a)) 23) e fun a e=>
 RR (aq .len #[23] 3 [false] [a]) e fun a e=>
 RR (sOp (.fieldAddr 25 (.const b) 3) 0) e fun b e=>
 RR (sOp (.load 23 (.const b)) 23) e fun b e=>
 RR (aq .len #[23] 3 [false] [b]) e fun b e=>
 RR (ao .neq 3 false false a b) e fun a b=>
 RR (sOp (.pick (.const c) (.const (.bool true)) (.const a)) 4) b fun a b=>
 d a b) (
 RR (sOp (.pick (.const c) (.const (.bool true)) (.const undef)) 4) e fun a b=>
 d a b))))/\
 ∀ c _ _ _ _ _ _ _ _ _ _ _ _ _ _ _ _ _ _ _ _ _ _ _ _ _ _ _:Value,∀ e:World,d c e->
 CondV c (
 R (.returned (.bool false)) e) (
 (∃ (c:Value->World->Prop) (d:Value->World->Nat),c (.int .i64 0) e/\
 ∀ e _ _ _ f g h i j k l m n o p q _ _ _ _ _:Value,∀ r:World,c e r->
 RR (sOp (.fieldAddr 25 (.const a) 3) 0) r fun s t=>
 RR (sOp (.load 23 (.const s)) 23) t fun s t=>
 RR (aq .len #[23] 3 [false] [s]) t fun s t=>
 RR (ao .lss 3 false false e s) t fun s t=>
 CondV s (
 (∃ s:(Nat->Bool)->Value->Value->Value->Value->Value->Value->Value->Value->Value->Value->Value->Value->World->Prop,s (fun _=>false) f g h i j k l m n o p q { t with drawn:=t.drawn+1 }/\(
 (∀ b:Nat->Bool,b 0=false->∀ c d e f g h i j k l m n o,s b c d e f g h i j k l m n o->
 RR (sOp (.fieldAddr 25 (.const a) 3) 0) o fun a n=>
 s (aw b 0) c d e f g h i j k l m a n)/\
 (∀ a:Nat->Bool,a 1=false->a 0=true->∀ b c d e f g h i j k l m n,s a b c d e f g h i j k l m n->
 RR (sOp (.load 23 (.const m)) 23) n fun l n=>
 s (aw a 1) b c d e f g h i j k l m n)/\
 (∀ a:Nat->Bool,a 2=false->∀ b c d f g h i j k l m n o,s a b c d f g h i j k l m n o->
 s (aw a 2) b c d f g h i j k e m n o)/\
 (∀ a:Nat->Bool,a 3=false->a 1=true->a 2=true->∀ b c d e f g h i j k l m n,s a b c d e f g h i j k l m n->
 RR (sOp (.indexAddr 23 (.const l) (.const k)) 0) n fun j n=>
 s (aw a 3) b c d e f g h i j k l m n)/\
 (∀ a:Nat->Bool,a 4=false->a 3=true->∀ b c d e f g h i j k l m n,s a b c d e f g h i j k l m n->
 RR (sOp (.load 25 (.const j)) 25) n fun i n=>
 s (aw a 4) b c d e f g h i j k l m n)/\
 (∀ a:Nat->Bool,a 5=false->∀ c d e f g h i j k l m n o,s a c d e f g h i j k l m n o->
 RR (sOp (.fieldAddr 25 (.const b) 3) 0) o fun b i=>
 s (aw a 5) c d e f g h b j k l m n i)/\
 (∀ a:Nat->Bool,a 6=false->a 5=true->∀ b c d e f g h i j k l m n,s a b c d e f g h i j k l m n->
 RR (sOp (.load 23 (.const h)) 23) n fun g n=>
 s (aw a 6) b c d e f g h i j k l m n)/\
 (∀ a:Nat->Bool,a 7=false->∀ b c d f g h i j k l m n o,s a b c d f g h i j k l m n o->
 s (aw a 7) b c d f e h i j k l m n o)/\
 (∀ a:Nat->Bool,a 8=false->a 6=true->a 7=true->∀ b c d e f g h i j k l m n,s a b c d e f g h i j k l m n->
 RR (sOp (.indexAddr 23 (.const g) (.const f)) 0) n fun e n=>
 s (aw a 8) b c d e f g h i j k l m n)/\
 (∀ a:Nat->Bool,a 9=false->a 8=true->∀ b c d e f g h i j k l m n,s a b c d e f g h i j k l m n->
 RR (sOp (.load 25 (.const e)) 25) n fun d n=>
 s (aw a 9) b c d e f g h i j k l m n)/\
 (∀ a:Nat->Bool,a 10=false->a 4=true->a 9=true->∀ b c d e f g h i j k l m n,s a b c d e f g h i j k l m n->
 RR (aH (.func (.func 118) #[] #[]) [i,d]) n fun c n=>
 s (aw a 10) b c d e f g h i j k l m n)/\
 (∀ a:Nat->Bool,a 11=false->a 10=true->∀ b c d e f g h i j k l m n,s a b c d e f g h i j k l m n->
 RR (sOp (.unOp .not 4 (.const c)) 4) n fun b n=>
 s (aw a 11) b c d e f g h i j k l m n)/\
 True)/\
 ∀ a:Nat->Bool,a 11=true->a 10=true->a 9=true->a 8=true->a 7=true->a 6=true->a 5=true->a 4=true->a 3=true->a 2=true->a 1=true->a 0=true->∀ b f g h i j k l m n o p q,s a b f g h i j k l m n o p q->
 CondV b (
 R (.returned (.bool false)) q) (
 RR (ao .add 3 false true e (.int .i64 1)) q fun a b=>
 c a b/\d a b<d e r))) (
 R (.returned (.bool true)) t))))
theorem qx {p0 p1:Value} {w:World} {R:Ending->World->Prop} (h:mN p0 p1 w R):Calls Tryz.prog 118 #[p0,p1] w R:=
  aN (.seq none .leaf (.seq none (.seq (some [33]) .leaf .leaf) (.seq none (.seq none .leaf (.one (.loop [5] .leaf))) .leaf))) [p0,p1] bh Tryz.func118 (by kernel_rfl) (by kernel_rfl) h


/- loop.example/prologserver/spec.l18Cut : function 119 -/
def qO (p0 p1:Value) (w:World) (R:Ending->World->Prop):Prop:=
 RR (aW 67 0 []) w fun a b=>
 (∃ (c:Value->Value->Value->World->Prop) (d:Value->Value->Value->World->Nat),c (.int .i64 0) (.int .i64 0) a b/\
 ∀ a _ _ b _ _ e _ _ _ _ _ _ _ _ _ _ _ _ _ _ _ _ _ _ _ _ _ _:Value,∀ f:World,c a b e f->
 RR (aq .len #[9] 3 [false] [p0]) f fun g h=>
 RR (ao .leq 3 false false a g) h fun g h=>
 CondV g (
 (∃ g:Value->Value->World->Prop,(
 (∃ c:Value->World->Prop,(
 RR (aq .len #[9] 3 [false] [p0]) h fun b d=>
 RR (ao .eql 3 false false a b) d fun b d=>
 ag b false (
 RR (sOp (.index 9 (.const p0) (.const a)) 5) d fun a d=>
 RR (ao .eql 5 false false a p1) d fun a d=>
 RR (sOp (.pick (.const b) (.const (.bool true)) (.const a)) 4) d fun a b=>
 c a b) (
 RR (sOp (.pick (.const b) (.const (.bool true)) (.const undef)) 4) d fun a b=>
 c a b))/\
 ∀ d _ _ _ _ _ _ _ _ _ _:Value,∀ f:World,c d f->
 CondV d (
 RR (sOp (.slice 9 (.const p0) (some (.const b)) (some (.const a)) none) 9) f fun b c=>
 RR (aW 67 1 [(0,b)]) c fun b c=>
 RR (aq .append #[67,67] 67 [false,false] [e,b]) c fun b c=>
 RR (ao .add 3 false true a (.int .i64 1)) c fun a c=>
 g a b c) (
 g b e f)))/\
 ∀ h _ _ i _ _ _ _ _ _ _ _ _ _ _ _ _ _ _ _ _ _:Value,∀ j:World,g h i j->
 RR (ao .add 3 false true a (.int .i64 1)) j fun g j=>
 c g h i j/\d g h i j<d a b e f)) (
 R (.returned e) h))
theorem ui {p0 p1:Value} {w:World} {R:Ending->World->Prop} (h:qO p0 p1 w R):Calls Tryz.prog 119 #[p0,p1] w R:=
  aN (.seq none .leaf (.seq none .leaf (.seq none .leaf (.seq none (.seq none .leaf (.one (.loop [7,6,5] (.seq none .leaf (.seq (some [6,5]) (.one (.seq (some [25]) .leaf .leaf)) .leaf))))) .leaf)))) [p0,p1] bh Tryz.func119 (by kernel_rfl) (by kernel_rfl) h


/- loop.example/prologserver/spec.ParseClause : function 120 -/
def jA (p0:Value) (w:World) (R:Ending->World->Prop):Prop:=
 RR (sOp (.alloc 39) 0) w fun a b=>
 RR (aq .len #[9] 3 [false] [p0]) b fun b c=>
 RR (ao .gtr 3 false true b (.int .i64 1000)) c fun b c=>
 CondV b (
 RR (cK 39 []) c fun b c=>
 RR (sOp (.store 39 (.const a) (.const b)) 0) c fun _ b=>
 (a4 Tryz.prog 39 a b fun a=>R (.returned (.tuple #[a,(.bool false)])) b)) (
 RR (aH (.func (.func 146) #[] #[]) [p0,(.int .i64 0),(.int .i64 30),(.int .i64 3)]) c fun b c=>
 RR (sOp (.extract (.const b) 0) 25) c fun c d=>
 RR (sOp (.extract (.const b) 1) 3) d fun b d=>
 RR (sOp (.alloc 25) 0) d fun d e=>
 RR (sOp (.store 25 (.const d) (.const c)) 0) e fun _ c=>
 RR (ao .lss 3 false true b (.int .i64 0)) c fun c e=>
 CondV c (
 RR (cK 39 []) e fun b c=>
 RR (sOp (.store 39 (.const a) (.const b)) 0) c fun _ b=>
 (a4 Tryz.prog 39 a b fun a=>R (.returned (.tuple #[a,(.bool false)])) b)) (
 RR (sOp (.load 25 (.const d)) 25) e fun c d=>
 RR (cK 39 [(0,c)]) d fun c d=>
 RR (sOp (.alloc 39) 0) d fun d e=>
 RR (sOp (.store 39 (.const d) (.const c)) 0) e fun _ c=>
 (∃ e:Value->World->Prop,(
 (∃ a:Value->World->Prop,(
 RR (aH (.func (.func 147) #[] #[]) [p0,b,(.int .u8 58)]) c fun c d=>
 ag c true (
 RR (ao .add 3 false true b (.int .i64 1)) d fun b d=>
 RR (aH (.func (.func 147) #[] #[]) [p0,b,(.int .u8 45)]) d fun b d=>
 RR (sOp (.pick (.const c) (.const b) (.const (.bool false))) 4) d fun b c=>
 a b c) (
 RR (sOp (.pick (.const c) (.const undef) (.const (.bool false))) 4) d fun b c=>
 a b c))/\
 ∀ c _ _ _ _ _ _ _ _:Value,∀ f:World,a c f->
 CondV c (
 RR (ao .add 3 false true b (.int .i64 2)) f fun a b=>
 RR (aH (.func (.func 148) #[] #[]) [p0,a]) b fun a b=>
 RR (sOp (.extract (.const a) 0) 23) b fun b c=>
 RR (sOp (.extract (.const a) 1) 3) c fun a c=>
 RR (sOp (.fieldAddr 39 (.const d) 1) 0) c fun c d=>
 RR (sOp (.store 23 (.const c) (.const b)) 0) d fun _ b=>
 e a b) (
 e b f)))/\
 ∀ b _ _ _ _ _ _ _ _ _ _ _ _ _ _ _ _ _:Value,∀ c:World,e b c->
 (∃ e:Value->World->Prop,(
 RR (aq .len #[9] 3 [false] [p0]) c fun a c=>
 RR (ao .sub 3 false true a (.int .i64 1)) c fun a c=>
 RR (ao .neq 3 false false b a) c fun a c=>
 ((fun d:VW=>ag a false (
 RR (aH (.func (.func 147) #[] #[]) [p0,b,(.int .u8 46)]) c fun b c=>
 RR (sOp (.unOp .not 4 (.const b)) 4) c fun b c=>
 RR (sOp (.pick (.const a) (.const (.bool true)) (.const b)) 4) c fun a b=>d a b) (
 RR (sOp (.pick (.const a) (.const (.bool true)) (.const undef)) 4) c fun a b=>d a b)) fun a b=>
 ag a false (
 RR (sOp (.load 39 (.const d)) 39) b fun b c=>
 RR (aH (.func (.func 149) #[] #[]) [b]) c fun b c=>
 RR (ao .neq 9 false false b p0) c fun b c=>
 RR (sOp (.pick (.const a) (.const (.bool true)) (.const b)) 4) c fun a b=>
 e a b) (
 RR (sOp (.pick (.const a) (.const (.bool true)) (.const undef)) 4) b fun a b=>
 e a b)))/\
 ∀ b _ _ _ _ _ _ _ _ _ _ _ _ _ _ _ _:Value,∀ c:World,e b c->
 CondV b (
 RR (cK 39 []) c fun b c=>
 RR (sOp (.store 39 (.const a) (.const b)) 0) c fun _ b=>
 (a4 Tryz.prog 39 a b fun a=>R (.returned (.tuple #[a,(.bool false)])) b)) (
 RR (sOp (.load 39 (.const d)) 39) c fun b c=>
 RR (aH (.func (.func 140) #[] #[]) [b]) c fun b c=>
 RR (sOp (.store 39 (.const a) (.const b)) 0) c fun _ b=>
 (a4 Tryz.prog 39 a b fun a=>R (.returned (.tuple #[a,(.bool true)])) b))))))
theorem mj {p0:Value} {w:World} {R:Ending->World->Prop} (h:jA p0 w R):Calls Tryz.prog 120 #[p0] w R:=
  aN (.seq none .leaf (.seq none .leaf (.seq none .leaf (.seq none .leaf (.seq none .leaf (.seq (some [5]) (.seq (some [29]) .leaf .leaf) (.seq none (.seq (some [54]) .leaf .leaf) .leaf))))))) [p0] bh Tryz.func120 (by kernel_rfl) (by kernel_rfl) h


/- loop.example/prologserver/spec.l4Texts : function 121 -/
def oa (w:World) (R:Ending->World->Prop):Prop:=
 RR (aW 67 11 [(0,(.string ⟨#[97,112,112,40,91,93,44,65,44,65,41,46,10,97,112,112,40,91,65,124,66,93,44,67,44,91,65,124,68,93,41,58,45,97,112,112,40,66,44,67,44,68,41,46,10]⟩)),(1,(.string ⟨#[109,101,109,40,65,44,91,65,124,66,93,41,46,10,109,101,109,40,65,44,91,66,124,67,93,41,58,45,109,101,109,40,65,44,67,41,46,10]⟩)),(2,(.string ⟨#[112,40,49,41,46,10,112,40,50,41,46,10,112,40,51,41,46,10,113,40,65,41,58,45,112,40,65,41,44,65,62,49,44,33,46,10,114,40,65,44,66,41,58,45,112,40,65,41,44,112,40,66,41,46,10]⟩)),(3,(.string ⟨#[108,101,110,40,91,93,44,48,41,46,10,108,101,110,40,91,65,124,66,93,44,67,41,58,45,108,101,110,40,66,44,68,41,44,67,32,105,115,32,68,43,49,46,10]⟩)),(4,(.string ⟨#[109,97,120,40,65,44,66,44,65,41,58,45,65,62,61,66,44,33,46,10,109,97,120,40,65,44,66,44,66,41,46,10]⟩)),(5,(.string ⟨#[101,40,97,44,98,41,46,10,101,40,98,44,99,41,46,10,101,40,99,44,100,41,46,10,116,40,65,44,66,41,58,45,101,40,65,44,66,41,46,10,116,40,65,44,66,41,58,45,101,40,65,44,67,41,44,116,40,67,44,66,41,46,10]⟩)),(6,(.string ⟨#[108,111,111,112,58,45,108,111,111,112,46,10,111,107,46,10]⟩)),(7,(.string ⟨#[102,97,99,40,48,44,49,41,58,45,33,46,10,102,97,99,40,65,44,66,41,58,45,65,62,48,44,67,32,105,115,32,65,45,49,44,102,97,99,40,67,44,68,41,44,66,32,105,115,32,65,42,68,46,10]⟩)),(8,(.string ⟨#[115,40,65,41,58,45,65,61,102,40,66,41,44,97,114,103,40,49,44,65,44,66,41,44,66,61,49,46,10,115,40,65,41,58,45,118,97,114,40,65,41,44,65,61,110,111,110,101,46,10]⟩)),(9,(.string ⟨#[114,101,118,40,91,93,44,65,44,65,41,46,10,114,101,118,40,91,65,124,66,93,44,67,44,68,41,58,45,114,101,118,40,66,44,91,65,124,67,93,44,68,41,46,10]⟩)),(10,(.string ⟨#[98,97,100,40,65,41,58,45,66,32,105,115,32,65,43,102,111,111,44,67,61,66,46,10,98,105,103,40,65,41,58,45,65,32,105,115,32,57,57,57,43,49,46,10,117,110,40,65,41,58,45,110,111,115,117,99,104,40,65,41,46,10]⟩))]) w fun a b=>
 R (.returned a) b
theorem su {w:World} {R:Ending->World->Prop} (h:oa w R):Calls Tryz.prog 121 #[] w R:=
  aN .leaf [] bh Tryz.func121 (by kernel_rfl) (by kernel_rfl) h


/- loop.example/prologserver/spec.l1Parse : function 122 -/
def pB (p0 p1 p2:Value) (w:World) (R:Ending->World->Prop):Prop:=
 RR (sOp (.alloc 25) 0) w fun a b=>
 (∃ c:Value->World->Prop,(
 RR (ao .lss 3 false true p2 (.int .i64 1)) b fun a b=>
 ((fun c:VW=>ag a false (
 RR (ao .lss 3 false true p1 (.int .i64 0)) b fun b d=>
 RR (sOp (.pick (.const a) (.const (.bool true)) (.const b)) 4) d fun a b=>c a b) (
 RR (sOp (.pick (.const a) (.const (.bool true)) (.const undef)) 4) b fun a b=>c a b)) fun a b=>
 ag a false (
 RR (aq .len #[9] 3 [false] [p0]) b fun b d=>
 RR (ao .geq 3 false false p1 b) d fun b d=>
 RR (sOp (.pick (.const a) (.const (.bool true)) (.const b)) 4) d fun a b=>
 c a b) (
 RR (sOp (.pick (.const a) (.const (.bool true)) (.const undef)) 4) b fun a b=>
 c a b)))/\
 ∀ b _ _ _ _ _ _ _ _ _ _ _:Value,∀ d:World,c b d->
 CondV b (
 RR (cK 25 []) d fun b c=>
 RR (sOp (.store 25 (.const a) (.const b)) 0) c fun _ b=>
 (a4 Tryz.prog 25 a b fun a=>R (.returned (.tuple #[a,(.int .i64 (-1))])) b)) (
 (∃ b:Value->World->Prop,(
 RR (sOp (.index 9 (.const p0) (.const p1)) 5) d fun a c=>
 RR (ao .geq 5 false true a (.int .u8 65)) c fun a c=>
 ag a true (
 RR (sOp (.index 9 (.const p0) (.const p1)) 5) c fun c d=>
 RR (ao .leq 5 false true c (.int .u8 90)) d fun c d=>
 RR (sOp (.pick (.const a) (.const c) (.const (.bool false))) 4) d fun a c=>
 b a c) (
 RR (sOp (.pick (.const a) (.const undef) (.const (.bool false))) 4) c fun a c=>
 b a c))/\
 ∀ c _ _ _ _ _ _ _ _ _:Value,∀ d:World,b c d->
 CondV c (
 RR (sOp (.index 9 (.const p0) (.const p1)) 5) d fun b c=>
 RR (ao .sub 5 false true b (.int .u8 65)) c fun b c=>
 RR (sOp (.convert 5 3 (.const b)) 3) c fun b c=>
 RR (aH (.func (.func 150) #[] #[]) [b]) c fun b c=>
 RR (ao .add 3 false true p1 (.int .i64 1)) c fun c d=>
 RR (sOp (.store 25 (.const a) (.const b)) 0) d fun _ b=>
 (a4 Tryz.prog 25 a b fun a=>R (.returned (.tuple #[a,c])) b)) (
 (∃ b:Value->World->Prop,(
 RR (aH (.func (.func 151) #[] #[]) [p0,p1]) d fun a c=>
 ag a false (
 RR (sOp (.index 9 (.const p0) (.const p1)) 5) c fun c d=>
 RR (ao .eql 5 false true c (.int .u8 45)) d fun c d=>
 ag c true (
 RR (ao .add 3 false true p1 (.int .i64 1)) d fun d e=>
 RR (aH (.func (.func 151) #[] #[]) [p0,d]) e fun d e=>
 ag a false (
 RR (sOp (.pick (.const c) (.const d) (.const (.bool false))) 4) e fun c d=>
 RR (sOp (.pick (.const a) (.const (.bool true)) (.const c)) 4) d fun a c=>
 b a c) (
 RR (sOp (.pick (.const a) (.const (.bool true)) (.const undef)) 4) e fun a c=>
 b a c)) (
 ag a false (
 RR (sOp (.pick (.const c) (.const undef) (.const (.bool false))) 4) d fun c d=>
 RR (sOp (.pick (.const a) (.const (.bool true)) (.const c)) 4) d fun a c=>
 b a c) (
 RR (sOp (.pick (.const a) (.const (.bool true)) (.const undef)) 4) d fun a c=>
 b a c))) (
 ag undef true (
 RR (ao .add 3 false true p1 (.int .i64 1)) c fun c d=>
 RR (aH (.func (.func 151) #[] #[]) [p0,c]) d fun c d=>
 ag a false (
 RR (sOp (.pick (.const undef) (.const c) (.const (.bool false))) 4) d fun c d=>
 RR (sOp (.pick (.const a) (.const (.bool true)) (.const c)) 4) d fun a c=>
 b a c) (
 RR (sOp (.pick (.const a) (.const (.bool true)) (.const undef)) 4) d fun a c=>
 b a c)) (
 ag a false (
 RR (sOp (.pick (.const undef) (.const undef) (.const (.bool false))) 4) c fun c d=>
 RR (sOp (.pick (.const a) (.const (.bool true)) (.const c)) 4) d fun a c=>
 b a c) (
 RR (sOp (.pick (.const a) (.const (.bool true)) (.const undef)) 4) c fun a c=>
 b a c))))/\
 ∀ c _ _ _ _ _ _ _ _ _ _ _ _ _ _:Value,∀ d:World,b c d->
 CondV c (
 RR (aH (.func (.func 152) #[] #[]) [p0,p1]) d fun b c=>
 RR (sOp (.extract (.const b) 0) 25) c fun c d=>
 RR (sOp (.extract (.const b) 1) 3) d fun b d=>
 RR (sOp (.store 25 (.const a) (.const c)) 0) d fun _ c=>
 (a4 Tryz.prog 25 a c fun a=>R (.returned (.tuple #[a,b])) c)) (
 (∃ b:Value->World->Prop,(
 RR (sOp (.index 9 (.const p0) (.const p1)) 5) d fun a c=>
 RR (ao .eql 5 false true a (.int .u8 91)) c fun a c=>
 ag a true (
 RR (ao .add 3 false true p1 (.int .i64 1)) c fun c d=>
 RR (aH (.func (.func 147) #[] #[]) [p0,c,(.int .u8 93)]) d fun c d=>
 RR (sOp (.unOp .not 4 (.const c)) 4) d fun c d=>
 RR (sOp (.pick (.const a) (.const c) (.const (.bool false))) 4) d fun a c=>
 b a c) (
 RR (sOp (.pick (.const a) (.const undef) (.const (.bool false))) 4) c fun a c=>
 b a c))/\
 ∀ c _ _ _ _ _ _ _ _ _ _:Value,∀ d:World,b c d->
 CondV c (
 RR (ao .add 3 false true p1 (.int .i64 1)) d fun b c=>
 RR (ao .sub 3 false true p2 (.int .i64 1)) c fun c d=>
 RR (aH (.func (.func 153) #[] #[]) [p0,b,c]) d fun b c=>
 RR (sOp (.extract (.const b) 0) 25) c fun c d=>
 RR (sOp (.extract (.const b) 1) 3) d fun b d=>
 RR (sOp (.store 25 (.const a) (.const c)) 0) d fun _ c=>
 (a4 Tryz.prog 25 a c fun a=>R (.returned (.tuple #[a,b])) c)) (
 RR (aH (.func (.func 154) #[] #[]) [p0,p1]) d fun b c=>
 RR (sOp (.extract (.const b) 0) 9) c fun c d=>
 RR (sOp (.extract (.const b) 1) 3) d fun b d=>
 (∃ e:Value->World->Prop,(
 RR (ao .lss 3 false true b (.int .i64 0)) d fun a c=>
 ag a false (
 RR (aH (.func (.func 147) #[] #[]) [p0,b,(.int .u8 40)]) c fun b c=>
 RR (sOp (.unOp .not 4 (.const b)) 4) c fun b c=>
 RR (sOp (.pick (.const a) (.const (.bool true)) (.const b)) 4) c fun a b=>
 e a b) (
 RR (sOp (.pick (.const a) (.const (.bool true)) (.const undef)) 4) c fun a b=>
 e a b))/\
 ∀ d _ _ _ _ _ _ _:Value,∀ f:World,e d f->
 CondV d (
 RR (aH (.func (.func 78) #[] #[]) [c,(Value.slice none 0 0)]) f fun c d=>
 RR (sOp (.store 25 (.const a) (.const c)) 0) d fun _ c=>
 (a4 Tryz.prog 25 a c fun a=>R (.returned (.tuple #[a,b])) c)) (
 RR (ao .add 3 false true b (.int .i64 1)) f fun b d=>
 RR (ao .sub 3 false true p2 (.int .i64 1)) d fun d e=>
 RR (aH (.func (.func 155) #[] #[]) [p0,b,d]) e fun b d=>
 RR (sOp (.extract (.const b) 0) 23) d fun d e=>
 RR (sOp (.extract (.const b) 1) 3) e fun b e=>
 RR (cK 25 [(0,(.int .i64 3)),(2,c),(3,d)]) e fun c d=>
 RR (sOp (.store 25 (.const a) (.const c)) 0) d fun _ c=>
 (a4 Tryz.prog 25 a c fun a=>R (.returned (.tuple #[a,b])) c)))))))))))
theorem sC {p0 p1 p2:Value} {w:World} {R:Ending->World->Prop} (h:pB p0 p1 p2 w R):Calls Tryz.prog 122 #[p0,p1,p2] w R:=
  aN (.seq none .leaf (.seq none (.seq (some [23]) .leaf .leaf) (.seq none (.seq (some [34]) .leaf .leaf) (.seq none (.seq (some [57]) .leaf .leaf) (.seq none (.seq (some [73]) .leaf .leaf) (.seq none .leaf (.seq none (.seq (some [95]) .leaf .leaf) .leaf))))))) [p0,p1,p2] bh Tryz.func122 (by kernel_rfl) (by kernel_rfl) h


/- loop.example/prologserver/spec.FormatTerm : function 123 -/
def kC (p0:Value) (w:World) (R:Ending->World->Prop):Prop:=
 RR (sOp (.box 25 (.const p0)) 0) w fun a b=>
 RR (sOp (.load 25 (.const a)) 25) b fun b c=>
 RR (aH (.func (.func 84) #[] #[]) [b]) c fun b c=>
 RR (sOp (.unOp .not 4 (.const b)) 4) c fun b c=>
 CondV b (
 R (.returned (.string ⟨#[]⟩)) c) (
 RR (sOp (.load 25 (.const a)) 25) c fun a b=>
 RR (aH (.func (.func 156) #[] #[]) [a]) b fun a b=>
 R (.returned a) b)
theorem nc {p0:Value} {w:World} {R:Ending->World->Prop} (h:kC p0 w R):Calls Tryz.prog 123 #[p0] w R:=
  aN .leaf [p0] bh Tryz.func123 (by kernel_rfl) (by kernel_rfl) h


/- loop.example/prologserver/spec.l1Shape : function 124 -/
def pv (p0 p1:Value) (w:World) (R:Ending->World->Prop):Prop:=
 RR (sOp (.box 25 (.const p0)) 0) w fun a b=>
 (∃ c:Value->World->Prop,(
 RR (ao .lss 3 false true p1 (.int .i64 1)) b fun b d=>
 ag b false (
 RR (sOp (.load 25 (.const a)) 25) d fun a d=>
 RR (aH (.func (.func 157) #[] #[]) [a]) d fun a d=>
 RR (sOp (.unOp .not 4 (.const a)) 4) d fun a d=>
 RR (sOp (.pick (.const b) (.const (.bool true)) (.const a)) 4) d fun a b=>
 c a b) (
 RR (sOp (.pick (.const b) (.const (.bool true)) (.const undef)) 4) d fun a b=>
 c a b))/\
 ∀ b _ _ _ _ _ _:Value,∀ d:World,c b d->
 CondV b (
 R (.returned (.bool false)) d) (
 (∃ (b:Value->World->Prop) (c:Value->World->Nat),b (.int .i64 0) d/\
 ∀ d _ _ _ _ _ _ _ _ _ _ _ _ _ _ _ _ _:Value,∀ e:World,b d e->
 RR (sOp (.fieldAddr 25 (.const a) 3) 0) e fun f g=>
 RR (sOp (.load 23 (.const f)) 23) g fun f g=>
 RR (aq .len #[23] 3 [false] [f]) g fun f g=>
 RR (ao .lss 3 false false d f) g fun f g=>
 CondV f (
 RR (sOp (.fieldAddr 25 (.const a) 3) 0) g fun a f=>
 RR (sOp (.load 23 (.const a)) 23) f fun a f=>
 RR (sOp (.indexAddr 23 (.const a) (.const d)) 0) f fun a f=>
 RR (sOp (.load 25 (.const a)) 25) f fun a f=>
 RR (ao .sub 3 false true p1 (.int .i64 1)) f fun f g=>
 RR (aH (.func (.func 124) #[] #[]) [a,f]) g fun a f=>
 RR (sOp (.unOp .not 4 (.const a)) 4) f fun a f=>
 CondV a (
 R (.returned (.bool false)) f) (
 RR (ao .add 3 false true d (.int .i64 1)) f fun a f=>
 b a f/\c a f<c d e)) (
 R (.returned (.bool true)) g))))
theorem r5 {p0 p1:Value} {w:World} {R:Ending->World->Prop} (h:pv p0 p1 w R):Calls Tryz.prog 124 #[p0,p1] w R:=
  aN (.seq none .leaf (.seq none (.seq (some [12]) .leaf .leaf) (.seq none (.seq none .leaf (.one (.loop [5] .leaf))) .leaf))) [p0,p1] bh Tryz.func124 (by kernel_rfl) (by kernel_rfl) h


/- loop.example/prologserver/spec.l1Count : function 125 -/
def pw (p0 p1:Value) (w:World) (R:Ending->World->Prop):Prop:=
 RR (sOp (.box 25 (.const p0)) 0) w fun a b=>
 (∃ (c:Value->Value->World->Prop) (d:Value->Value->World->Nat),c (.int .i64 0) (.int .i64 1) b/\
 ∀ b _ _ e _ _ _ _ _ _ _ _ _ _ _ _ _ _ _ _ _ _ _ _ _:Value,∀ f:World,c b e f->
 (∃ g:Value->World->Prop,(
 RR (sOp (.fieldAddr 25 (.const a) 3) 0) f fun a c=>
 RR (sOp (.load 23 (.const a)) 23) c fun a c=>
 RR (aq .len #[23] 3 [false] [a]) c fun a c=>
 RR (ao .lss 3 false false b a) c fun a b=>
 ag a true (
 RR (ao .leq 3 false false e p1) b fun b c=>
 RR (sOp (.pick (.const a) (.const b) (.const (.bool false))) 4) c fun a b=>
 g a b) (
 RR (sOp (.pick (.const a) (.const undef) (.const (.bool false))) 4) b fun a b=>
 g a b))/\
 ∀ h _ _ _ _ _ _ _ _ _:Value,∀ i:World,g h i->
 CondV h (
 RR (sOp (.fieldAddr 25 (.const a) 3) 0) i fun a g=>
 RR (sOp (.load 23 (.const a)) 23) g fun a g=>
 RR (sOp (.indexAddr 23 (.const a) (.const b)) 0) g fun a g=>
 RR (sOp (.load 25 (.const a)) 25) g fun a g=>
 RR (ao .sub 3 false false p1 e) g fun g h=>
 RR (aH (.func (.func 125) #[] #[]) [a,g]) h fun a g=>
 RR (ao .add 3 false false e a) g fun a g=>
 RR (ao .add 3 false true b (.int .i64 1)) g fun g h=>
 c g a h/\d g a h<d b e f) (
 R (.returned e) i)))
theorem sf {p0 p1:Value} {w:World} {R:Ending->World->Prop} (h:pw p0 p1 w R):Calls Tryz.prog 125 #[p0,p1] w R:=
  aN (.seq none .leaf (.seq none .leaf (.seq none (.seq none .leaf (.one (.loop [6,5] (.seq none (.seq (some [16]) .leaf .leaf) .leaf)))) .leaf))) [p0,p1] bh Tryz.func125 (by kernel_rfl) (by kernel_rfl) h


/- loop.example/prologserver/impl.within : function 126 -/
def rp (p0 p1 p2:Value) (w:World) (R:Ending->World->Prop):Prop:=
 RR (ao .leq 3 false false p1 p0) w fun a b=>
 ag a true (
 RR (ao .leq 3 false false p0 p2) b fun b c=>
 RR (sOp (.pick (.const a) (.const b) (.const (.bool false))) 4) c fun a b=>
 R (.returned a) b) (
 RR (sOp (.pick (.const a) (.const undef) (.const (.bool false))) 4) b fun a b=>
 R (.returned a) b)
theorem tJ {p0 p1 p2:Value} {w:World} {R:Ending->World->Prop} (h:rp p0 p1 p2 w R):Calls Tryz.prog 126 #[p0,p1,p2] w R:=
  aN .leaf [p0,p1,p2] bh Tryz.func126 (by kernel_rfl) (by kernel_rfl) h


/- loop.example/prologserver/impl.NameValid : function 127 -/
def kO (p0:Value) (w:World) (R:Ending->World->Prop):Prop:=
 RR (aH (.func (.func 101) #[] #[]) [p0]) w fun a b=>
 ag a false (
 RR (aH (.func (.func 158) #[] #[]) []) b fun b c=>
 RR (aH (.func (.func 55) #[] #[]) [b,p0]) c fun b c=>
 RR (sOp (.pick (.const a) (.const (.bool true)) (.const b)) 4) c fun a b=>
 R (.returned a) b) (
 RR (sOp (.pick (.const a) (.const (.bool true)) (.const undef)) 4) b fun a b=>
 R (.returned a) b)
theorem n6 {p0:Value} {w:World} {R:Ending->World->Prop} (h:kO p0 w R):Calls Tryz.prog 127 #[p0] w R:=
  aN .leaf [p0] bh Tryz.func127 (by kernel_rfl) (by kernel_rfl) h


/- loop.example/prologserver/impl.scan$1 : function 128 -/
def q5 (p0 p1 p2:Value) (w:World) (R:Ending->World->Prop):Prop:=
 RR (sOp (.box 25 (.const p0)) 0) w fun a b=>
 RR (sOp (.load 25 (.const a)) 25) b fun a b=>
 RR (sOp (.load 3 (.const p1)) 3) b fun b c=>
 RR (ao .add 3 false true b (.int .i64 1)) c fun b c=>
 RR (sOp (.load 91 (.const p2)) 91) c fun c d=>
 RR (aH (.func (.func 86) #[] #[]) [a,b,c]) d fun a b=>
 RR (sOp (.unOp .not 4 (.const a)) 4) b fun a b=>
 R (.returned a) b
theorem ut {p0 p1 p2:Value} {w:World} {R:Ending->World->Prop} (h:q5 p0 p1 p2 w R):Calls Tryz.prog 128 #[p0,p1,p2] w R:=
  aN .leaf [p0,p1,p2] bh Tryz.func128 (by kernel_rfl) (by kernel_rfl) h


/- loop.example/prologserver/spec.GoalValid : function 134 -/
def k0 (p0:Value) (w:World) (R:Ending->World->Prop):Prop:=
 RR (sOp (.box 25 (.const p0)) 0) w fun a b=>
 RR (sOp (.load 25 (.const a)) 25) b fun b c=>
 RR (aH (.func (.func 84) #[] #[]) [b]) c fun b c=>
 ag b true (
 RR (sOp (.load 25 (.const a)) 25) c fun a c=>
 RR (aH (.func (.func 161) #[] #[]) [a]) c fun a c=>
 RR (sOp (.pick (.const b) (.const a) (.const (.bool false))) 4) c fun a b=>
 R (.returned a) b) (
 RR (sOp (.pick (.const b) (.const undef) (.const (.bool false))) 4) c fun a b=>
 R (.returned a) b)
theorem pk {p0:Value} {w:World} {R:Ending->World->Prop} (h:k0 p0 w R):Calls Tryz.prog 134 #[p0] w R:=
  aN .leaf [p0] bh Tryz.func134 (by kernel_rfl) (by kernel_rfl) h


/- loop.example/prologserver/spec.l4Plain : function 135 -/
def pA (p0:Value) (w:World) (R:Ending->World->Prop):Prop:=
 RR (sOp (.box 25 (.const p0)) 0) w fun a b=>
 RR (sOp (.fieldAddr 25 (.const a) 0) 0) b fun b c=>
 RR (sOp (.load 3 (.const b)) 3) c fun b c=>
 RR (ao .eql 3 false true b (.int .i64 3)) c fun b c=>
 ((fun d:VW=>ag b true (
 RR (sOp (.fieldAddr 25 (.const a) 2) 0) c fun a c=>
 RR (sOp (.load 9 (.const a)) 9) c fun a c=>
 RR (aH (.func (.func 162) #[] #[]) [a]) c fun a c=>
 RR (sOp (.pick (.const b) (.const a) (.const (.bool false))) 4) c fun a b=>d a b) (
 RR (sOp (.pick (.const b) (.const undef) (.const (.bool false))) 4) c fun a b=>d a b)) fun b c=>
 ((fun d:VW=>ag b true (
 RR (sOp (.fieldAddr 25 (.const a) 2) 0) c fun c e=>
 RR (sOp (.load 9 (.const c)) 9) e fun c e=>
 RR (sOp (.fieldAddr 25 (.const a) 3) 0) e fun a e=>
 RR (sOp (.load 23 (.const a)) 23) e fun a e=>
 RR (aq .len #[23] 3 [false] [a]) e fun a e=>
 RR (aH (.func (.func 163) #[] #[]) [c,a]) e fun a c=>
 RR (sOp (.unOp .not 4 (.const a)) 4) c fun a c=>
 RR (sOp (.pick (.const b) (.const a) (.const (.bool false))) 4) c fun a b=>d a b) (
 RR (sOp (.pick (.const b) (.const undef) (.const (.bool false))) 4) c fun a b=>d a b)) fun b c=>
 ag b true (
 RR (sOp (.fieldAddr 25 (.const a) 2) 0) c fun a c=>
 RR (sOp (.load 9 (.const a)) 9) c fun a c=>
 RR (aH (.func (.func 164) #[] #[]) [a]) c fun a c=>
 RR (ao .eql 3 false true a (.int .i64 0)) c fun a c=>
 RR (sOp (.pick (.const b) (.const a) (.const (.bool false))) 4) c fun a b=>
 R (.returned a) b) (
 RR (sOp (.pick (.const b) (.const undef) (.const (.bool false))) 4) c fun a b=>
 R (.returned a) b)))
theorem r6 {p0:Value} {w:World} {R:Ending->World->Prop} (h:pA p0 w R):Calls Tryz.prog 135 #[p0] w R:=
  aN .leaf [p0] bh Tryz.func135 (by kernel_rfl) (by kernel_rfl) h


/- loop.example/prologserver/spec.l4Copy : function 140 -/
def ru (p0:Value) (w:World) (R:Ending->World->Prop):Prop:=
 RR (sOp (.box 39 (.const p0)) 0) w fun a b=>
 RR (sOp (.alloc 39) 0) b fun b c=>
 RR (sOp (.fieldAddr 39 (.const a) 0) 0) c fun c d=>
 RR (sOp (.load 25 (.const c)) 25) d fun c d=>
 RR (aH (.func (.func 42) #[] #[]) [c]) d fun c d=>
 RR (cK 39 [(0,c)]) d fun c d=>
 RR (sOp (.alloc 39) 0) d fun d e=>
 RR (sOp (.store 39 (.const d) (.const c)) 0) e fun _ c=>
 (∃ (e:Value->World->Prop) (f:Value->World->Nat),e (.int .i64 0) c/\
 ∀ c _ _ g h i j k l m n o p q _ _ _ _ _:Value,∀ r:World,e c r->
 RR (sOp (.fieldAddr 39 (.const a) 1) 0) r fun s t=>
 RR (sOp (.load 23 (.const s)) 23) t fun s t=>
 RR (aq .len #[23] 3 [false] [s]) t fun s t=>
 RR (ao .lss 3 false false c s) t fun s t=>
 CondV s (
 (∃ b:(Nat->Bool)->Value->Value->Value->Value->Value->Value->Value->Value->Value->Value->Value->World->Prop,b (fun _=>false) g h i j k l m n o p q { t with drawn:=t.drawn+1 }/\(
 (∀ a:Nat->Bool,a 0=false->∀ c e f g h i j k l m n o,b a c e f g h i j k l m n o->
 RR (sOp (.fieldAddr 39 (.const d) 1) 0) o fun d n=>
 b (aw a 0) c e f g h i j k l m d n)/\
 (∀ a:Nat->Bool,a 1=false->a 0=true->∀ c d e f g h i j k l m n,b a c d e f g h i j k l m n->
 RR (sOp (.load 23 (.const m)) 23) n fun l n=>
 b (aw a 1) c d e f g h i j k l m n)/\
 (∀ c:Nat->Bool,c 2=false->∀ d e f g h i j k l m n o,b c d e f g h i j k l m n o->
 RR (sOp (.fieldAddr 39 (.const a) 1) 0) o fun a l=>
 b (aw c 2) d e f g h i j k a m n l)/\
 (∀ a:Nat->Bool,a 3=false->a 2=true->∀ c d e f g h i j k l m n,b a c d e f g h i j k l m n->
 RR (sOp (.load 23 (.const k)) 23) n fun j n=>
 b (aw a 3) c d e f g h i j k l m n)/\
 (∀ a:Nat->Bool,a 4=false->∀ d e f g h i j k l m n o,b a d e f g h i j k l m n o->
 b (aw a 4) d e f g h i c k l m n o)/\
 (∀ a:Nat->Bool,a 5=false->a 3=true->a 4=true->∀ c d e f g h i j k l m n,b a c d e f g h i j k l m n->
 RR (sOp (.indexAddr 23 (.const j) (.const i)) 0) n fun h n=>
 b (aw a 5) c d e f g h i j k l m n)/\
 (∀ a:Nat->Bool,a 6=false->a 5=true->∀ c d e f g h i j k l m n,b a c d e f g h i j k l m n->
 RR (sOp (.load 25 (.const h)) 25) n fun g n=>
 b (aw a 6) c d e f g h i j k l m n)/\
 (∀ a:Nat->Bool,a 7=false->a 6=true->∀ c d e f g h i j k l m n,b a c d e f g h i j k l m n->
 RR (aH (.func (.func 42) #[] #[]) [g]) n fun f n=>
 b (aw a 7) c d e f g h i j k l m n)/\
 (∀ a:Nat->Bool,a 8=false->a 7=true->∀ c d e f g h i j k l m n,b a c d e f g h i j k l m n->
 RR (aW 23 1 [(0,f)]) n fun e n=>
 b (aw a 8) c d e f g h i j k l m n)/\
 (∀ a:Nat->Bool,a 9=false->a 1=true->a 8=true->a 7=true->∀ c d e f g h i j k l m n,b a c d e f g h i j k l m n->
 RR (aq .append #[23,23] 23 [false,false] [l,e]) n fun d n=>
 b (aw a 9) c d e f g h i j k l m n)/\
 (∀ a:Nat->Bool,a 10=false->a 0=true->a 1=true->a 2=true->a 3=true->a 4=true->a 5=true->a 6=true->a 7=true->a 8=true->a 9=true->∀ c e f g h i j k l m n o,b a c e f g h i j k l m n o->
 RR (sOp (.fieldAddr 39 (.const d) 1) 0) o fun c d=>
 b (aw a 10) c e f g h i j k l m n d)/\
 (∀ a:Nat->Bool,a 11=false->a 10=true->a 9=true->a 9=true->a 0=true->a 1=true->a 2=true->a 3=true->a 4=true->a 5=true->a 6=true->a 7=true->a 8=true->a 9=true->∀ c d e f g h i j k l m n,b a c d e f g h i j k l m n->
 RR (sOp (.store 23 (.const c) (.const d)) 0) n fun _ n=>
 b (aw a 11) c d e f g h i j k l m n)/\
 True)/\
 ∀ a:Nat->Bool,a 11=true->a 10=true->a 9=true->a 8=true->a 7=true->a 6=true->a 5=true->a 4=true->a 3=true->a 2=true->a 1=true->a 0=true->∀ d g h i j k l m n o p q,b a d g h i j k l m n o p q->
 RR (ao .add 3 false true c (.int .i64 1)) q fun a b=>
 e a b/\f a b<f c r)) (
 RR (sOp (.load 39 (.const d)) 39) t fun a c=>
 RR (sOp (.store 39 (.const b) (.const a)) 0) c fun _ a=>
 (a4 Tryz.prog 39 b a fun b=>R (.returned b) a)))
theorem ug {p0:Value} {w:World} {R:Ending->World->Prop} (h:ru p0 w R):Calls Tryz.prog 140 #[p0] w R:=
  aN (.seq none .leaf (.seq none .leaf (.seq none (.seq none .leaf (.one (.loop [4] .leaf))) .leaf))) [p0] bh Tryz.func140 (by kernel_rfl) (by kernel_rfl) h


/- loop.example/prologserver/spec.l1Compare : function 145 -/
def lX (p0 p1:Value) (w:World) (R:Ending->World->Prop):Prop:=
 RR (sOp (.box 25 (.const p0)) 0) w fun a b=>
 RR (sOp (.box 25 (.const p1)) 0) b fun b c=>
 (∃ d:(Nat->Bool)->Value->Value->Value->Value->Value->World->Prop,d (fun _=>false) undef undef undef undef undef { c with drawn:=c.drawn+1 }/\(
 (∀ b:Nat->Bool,b 0=false->∀ c e f g h i,d b c e f g h i->
 RR (sOp (.load 25 (.const a)) 25) i fun a h=>
 d (aw b 0) c e f g a h)/\
 (∀ a:Nat->Bool,a 1=false->a 0=true->∀ b c e f g h,d a b c e f g h->
 RR (aH (.func (.func 167) #[] #[]) [g]) h fun f h=>
 d (aw a 1) b c e f g h)/\
 (∀ a:Nat->Bool,a 2=false->∀ c e f g h i,d a c e f g h i->
 RR (sOp (.load 25 (.const b)) 25) i fun b f=>
 d (aw a 2) c e b g h f)/\
 (∀ a:Nat->Bool,a 3=false->a 2=true->a 1=true->∀ b c e f g h,d a b c e f g h->
 RR (aH (.func (.func 167) #[] #[]) [e]) h fun c h=>
 d (aw a 3) b c e f g h)/\
 (∀ a:Nat->Bool,a 4=false->a 1=true->a 3=true->∀ b c e f g h,d a b c e f g h->
 RR (ao .neq 3 false false f c) h fun b h=>
 d (aw a 4) b c e f g h)/\
 True)/\
 ∀ c:Nat->Bool,c 4=true->c 3=true->c 2=true->c 1=true->c 0=true->∀ e f g h i j,d c e f g h i j->
 CondV e (
 (∃ c:(Nat->Bool)->Value->Value->Value->Value->Value->Value->World->Prop,c (fun _=>false) (.int .i64 0) undef undef undef undef undef { j with drawn:=j.drawn+1 }/\(
 (∀ b:Nat->Bool,b 0=false->∀ d e f g h i j,c b d e f g h i j->
 RR (sOp (.load 25 (.const a)) 25) j fun a i=>
 c (aw b 0) d e f g h a i)/\
 (∀ a:Nat->Bool,a 1=false->a 0=true->∀ b d e f g h i,c a b d e f g h i->
 RR (aH (.func (.func 167) #[] #[]) [h]) i fun g i=>
 c (aw a 1) b d e f g h i)/\
 (∀ a:Nat->Bool,a 2=false->∀ d e f g h i j,c a d e f g h i j->
 RR (sOp (.load 25 (.const b)) 25) j fun b g=>
 c (aw a 2) d e f b h i g)/\
 (∀ a:Nat->Bool,a 3=false->a 2=true->a 1=true->∀ b d e f g h i,c a b d e f g h i->
 RR (aH (.func (.func 167) #[] #[]) [f]) i fun e i=>
 c (aw a 3) b d e f g h i)/\
 (∀ a:Nat->Bool,a 4=false->a 1=true->a 3=true->a 3=true->∀ b d e f g h i,c a b d e f g h i->
 RR (aH (.func (.func 168) #[] #[]) [g,e]) i fun d i=>
 c (aw a 4) b d e f g h i)/\
 (∀ a:Nat->Bool,a 5=false->a 4=true->a 4=true->a 0=true->a 1=true->a 2=true->a 3=true->a 4=true->∀ b d e f g h i,c a b d e f g h i->
 c (aw a 5) d d e f g h i)/\
 True)/\
 ∀ a:Nat->Bool,a 5=true->a 4=true->a 3=true->a 2=true->a 1=true->a 0=true->∀ b d e f g h i,c a b d e f g h i->
 R (.returned b) i)) (
 RR (sOp (.fieldAddr 25 (.const a) 0) 0) j fun c d=>
 RR (sOp (.load 3 (.const c)) 3) d fun c d=>
 RR (ao .neq 3 false true c (.int .i64 3)) d fun c d=>
 CondV c (
 RR (sOp (.fieldAddr 25 (.const a) 1) 0) d fun a c=>
 RR (sOp (.load 3 (.const a)) 3) c fun a c=>
 RR (sOp (.fieldAddr 25 (.const b) 1) 0) c fun b c=>
 RR (sOp (.load 3 (.const b)) 3) c fun b c=>
 RR (aH (.func (.func 168) #[] #[]) [a,b]) c fun a b=>
 R (.returned a) b) (
 RR (sOp (.fieldAddr 25 (.const a) 3) 0) d fun c d=>
 RR (sOp (.load 23 (.const c)) 23) d fun c d=>
 RR (aq .len #[23] 3 [false] [c]) d fun c d=>
 RR (sOp (.fieldAddr 25 (.const b) 3) 0) d fun d e=>
 RR (sOp (.load 23 (.const d)) 23) e fun d e=>
 RR (aq .len #[23] 3 [false] [d]) e fun d e=>
 RR (ao .neq 3 false false c d) e fun c d=>
 CondV c (
 RR (sOp (.fieldAddr 25 (.const a) 3) 0) d fun a c=>
 RR (sOp (.load 23 (.const a)) 23) c fun a c=>
 RR (aq .len #[23] 3 [false] [a]) c fun a c=>
 RR (sOp (.fieldAddr 25 (.const b) 3) 0) c fun b c=>
 RR (sOp (.load 23 (.const b)) 23) c fun b c=>
 RR (aq .len #[23] 3 [false] [b]) c fun b c=>
 RR (aH (.func (.func 168) #[] #[]) [a,b]) c fun a b=>
 R (.returned a) b) (
 RR (sOp (.fieldAddr 25 (.const a) 2) 0) d fun c d=>
 RR (sOp (.load 9 (.const c)) 9) d fun c d=>
 RR (sOp (.fieldAddr 25 (.const b) 2) 0) d fun d e=>
 RR (sOp (.load 9 (.const d)) 9) e fun d e=>
 RR (ao .neq 9 false false c d) e fun c d=>
 CondV c (
 RR (sOp (.fieldAddr 25 (.const a) 2) 0) d fun a c=>
 RR (sOp (.load 9 (.const a)) 9) c fun a c=>
 RR (sOp (.fieldAddr 25 (.const b) 2) 0) c fun b c=>
 RR (sOp (.load 9 (.const b)) 9) c fun b c=>
 RR (aH (.func (.func 169) #[] #[]) [a,b]) c fun a b=>
 R (.returned a) b) (
 (∃ (c:Value->World->Prop) (e:Value->World->Nat),c (.int .i64 0) d/\
 ∀ d _ _ _ _ _ _ f g h i j k l m n o p q _ _ _ _ _:Value,∀ r:World,c d r->
 RR (sOp (.fieldAddr 25 (.const a) 3) 0) r fun s t=>
 RR (sOp (.load 23 (.const s)) 23) t fun s t=>
 RR (aq .len #[23] 3 [false] [s]) t fun s t=>
 RR (ao .lss 3 false false d s) t fun s t=>
 CondV s (
 (∃ s:(Nat->Bool)->Value->Value->Value->Value->Value->Value->Value->Value->Value->Value->Value->Value->World->Prop,s (fun _=>false) f g h i j k l m n o p q { t with drawn:=t.drawn+1 }/\(
 (∀ b:Nat->Bool,b 0=false->∀ c d e f g h i j k l m n o,s b c d e f g h i j k l m n o->
 RR (sOp (.fieldAddr 25 (.const a) 3) 0) o fun a n=>
 s (aw b 0) c d e f g h i j k l m a n)/\
 (∀ a:Nat->Bool,a 1=false->a 0=true->∀ b c d e f g h i j k l m n,s a b c d e f g h i j k l m n->
 RR (sOp (.load 23 (.const m)) 23) n fun l n=>
 s (aw a 1) b c d e f g h i j k l m n)/\
 (∀ a:Nat->Bool,a 2=false->∀ b c e f g h i j k l m n o,s a b c e f g h i j k l m n o->
 s (aw a 2) b c e f g h i j k d m n o)/\
 (∀ a:Nat->Bool,a 3=false->a 1=true->a 2=true->∀ b c d e f g h i j k l m n,s a b c d e f g h i j k l m n->
 RR (sOp (.indexAddr 23 (.const l) (.const k)) 0) n fun j n=>
 s (aw a 3) b c d e f g h i j k l m n)/\
 (∀ a:Nat->Bool,a 4=false->a 3=true->∀ b c d e f g h i j k l m n,s a b c d e f g h i j k l m n->
 RR (sOp (.load 25 (.const j)) 25) n fun i n=>
 s (aw a 4) b c d e f g h i j k l m n)/\
 (∀ a:Nat->Bool,a 5=false->∀ c d e f g h i j k l m n o,s a c d e f g h i j k l m n o->
 RR (sOp (.fieldAddr 25 (.const b) 3) 0) o fun b i=>
 s (aw a 5) c d e f g h b j k l m n i)/\
 (∀ a:Nat->Bool,a 6=false->a 5=true->∀ b c d e f g h i j k l m n,s a b c d e f g h i j k l m n->
 RR (sOp (.load 23 (.const h)) 23) n fun g n=>
 s (aw a 6) b c d e f g h i j k l m n)/\
 (∀ a:Nat->Bool,a 7=false->∀ b c e f g h i j k l m n o,s a b c e f g h i j k l m n o->
 s (aw a 7) b c e f d h i j k l m n o)/\
 (∀ a:Nat->Bool,a 8=false->a 6=true->a 7=true->∀ b c d e f g h i j k l m n,s a b c d e f g h i j k l m n->
 RR (sOp (.indexAddr 23 (.const g) (.const f)) 0) n fun e n=>
 s (aw a 8) b c d e f g h i j k l m n)/\
 (∀ a:Nat->Bool,a 9=false->a 8=true->∀ b c d e f g h i j k l m n,s a b c d e f g h i j k l m n->
 RR (sOp (.load 25 (.const e)) 25) n fun d n=>
 s (aw a 9) b c d e f g h i j k l m n)/\
 (∀ a:Nat->Bool,a 10=false->a 4=true->a 9=true->∀ b c d e f g h i j k l m n,s a b c d e f g h i j k l m n->
 RR (aH (.func (.func 145) #[] #[]) [i,d]) n fun c n=>
 s (aw a 10) b c d e f g h i j k l m n)/\
 (∀ a:Nat->Bool,a 11=false->a 10=true->a 10=true->a 0=true->a 1=true->a 2=true->a 3=true->a 4=true->a 5=true->a 6=true->a 7=true->a 8=true->a 9=true->a 10=true->∀ b c d e f g h i j k l m n,s a b c d e f g h i j k l m n->
 s (aw a 11) c c d e f g h i j k l m n)/\
 True)/\
 ∀ a:Nat->Bool,a 11=true->a 10=true->a 9=true->a 8=true->a 7=true->a 6=true->a 5=true->a 4=true->a 3=true->a 2=true->a 1=true->a 0=true->∀ b f g h i j k l m n o p q,s a b f g h i j k l m n o p q->
 RR (ao .neq 3 false true b (.int .i64 0)) q fun a f=>
 CondV a (
 R (.returned b) f) (
 RR (ao .add 3 false true d (.int .i64 1)) f fun a b=>
 c a b/\e a b<e d r))) (
 R (.returned (.int .i64 0)) t)))))))
theorem n4 {p0 p1:Value} {w:World} {R:Ending->World->Prop} (h:lX p0 p1 w R):Calls Tryz.prog 145 #[p0,p1] w R:=
  aN (.seq none .leaf (.seq none .leaf (.seq none .leaf (.seq none .leaf (.seq none .leaf (.seq none (.seq none .leaf (.one (.loop [5] .leaf))) .leaf)))))) [p0,p1] bh Tryz.func145 (by kernel_rfl) (by kernel_rfl) h


/- loop.example/prologserver/spec.l2Read : function 146 -/
def rJ (p0 p1 p2 p3:Value) (w:World) (R:Ending->World->Prop):Prop:=
 RR (sOp (.alloc 25) 0) w fun a b=>
 RR (ao .eql 3 false true p3 (.int .i64 0)) b fun b c=>
 CondV b (
 RR (aH (.func (.func 170) #[] #[]) [p0,p1,p2]) c fun b c=>
 RR (sOp (.extract (.const b) 0) 25) c fun c d=>
 RR (sOp (.extract (.const b) 1) 3) d fun b d=>
 RR (sOp (.store 25 (.const a) (.const c)) 0) d fun _ c=>
 (a4 Tryz.prog 25 a c fun a=>R (.returned (.tuple #[a,b])) c)) (
 RR (ao .sub 3 false true p3 (.int .i64 1)) c fun b c=>
 RR (aH (.func (.func 146) #[] #[]) [p0,p1,p2,b]) c fun b c=>
 RR (sOp (.extract (.const b) 0) 25) c fun c d=>
 RR (sOp (.extract (.const b) 1) 3) d fun b d=>
 RR (sOp (.alloc 25) 0) d fun d e=>
 RR (sOp (.store 25 (.const d) (.const c)) 0) e fun _ c=>
 (∃ (e:Value->World->Prop) (f:Value->World->Nat),e b c/\
 ∀ _ _ _ _ b _ _ _ _ _ _ _ _ _ _ _ _ _ _ _ _ _ _ _ _ _ _ _ _ _ _ _ _ _ _ _ _ _ _ _ _ _ _ _ _ _ _:Value,∀ c:World,e b c->
 RR (ao .geq 3 false true b (.int .i64 0)) c fun g h=>
 CondV g (
 RR (aH (.func (.func 171) #[] #[]) [p0,b]) h fun g h=>
 RR (sOp (.extract (.const g) 0) 9) h fun h i=>
 RR (sOp (.extract (.const g) 1) 3) i fun g i=>
 (∃ j:Value->World->Prop,(
 RR (ao .eql 9 false true h (.string ⟨#[]⟩)) i fun a b=>
 ag a false (
 RR (aH (.func (.func 164) #[] #[]) [h]) b fun b c=>
 RR (ao .neq 3 false false b p3) c fun b c=>
 RR (sOp (.pick (.const a) (.const (.bool true)) (.const b)) 4) c fun a b=>
 j a b) (
 RR (sOp (.pick (.const a) (.const (.bool true)) (.const undef)) 4) b fun a b=>
 j a b))/\
 ∀ i _ _ _ _ _ _ _:Value,∀ k:World,j i k->
 CondV i (
 RR (sOp (.load 25 (.const d)) 25) k fun c d=>
 RR (sOp (.store 25 (.const a) (.const c)) 0) d fun _ c=>
 (a4 Tryz.prog 25 a c fun a=>R (.returned (.tuple #[a,b])) c)) (
 RR (ao .sub 3 false true p3 (.int .i64 1)) k fun i j=>
 RR (aH (.func (.func 146) #[] #[]) [p0,g,p2,i]) j fun g i=>
 RR (sOp (.extract (.const g) 0) 25) i fun i j=>
 RR (sOp (.extract (.const g) 1) 3) j fun g j=>
 RR (sOp (.alloc 25) 0) j fun j k=>
 RR (sOp (.store 25 (.const j) (.const i)) 0) k fun _ i=>
 RR (ao .lss 3 false true g (.int .i64 0)) i fun i k=>
 CondV i (
 RR (cK 25 []) k fun b c=>
 RR (sOp (.store 25 (.const a) (.const b)) 0) c fun _ b=>
 (a4 Tryz.prog 25 a b fun a=>R (.returned (.tuple #[a,g])) b)) (
 RR (sOp (.load 25 (.const d)) 25) k fun i k=>
 RR (sOp (.load 25 (.const j)) 25) k fun j k=>
 RR (aW 23 2 [(0,i),(1,j)]) k fun i j=>
 RR (aH (.func (.func 78) #[] #[]) [h,i]) j fun h i=>
 RR (sOp (.store 25 (.const d) (.const h)) 0) i fun _ h=>
 RR (ao .eql 3 false true p3 (.int .i64 3)) h fun h i=>
 CondV h (
 RR (sOp (.load 25 (.const d)) 25) i fun b c=>
 RR (sOp (.store 25 (.const a) (.const b)) 0) c fun _ b=>
 (a4 Tryz.prog 25 a b fun a=>R (.returned (.tuple #[a,g])) b)) (
 e g i/\f g i<f b c))))) (
 RR (cK 25 []) h fun c d=>
 RR (sOp (.store 25 (.const a) (.const c)) 0) d fun _ c=>
 (a4 Tryz.prog 25 a c fun a=>R (.returned (.tuple #[a,b])) c))))
theorem tI {p0 p1 p2 p3:Value} {w:World} {R:Ending->World->Prop} (h:rJ p0 p1 p2 p3 w R):Calls Tryz.prog 146 #[p0,p1,p2,p3] w R:=
  aN (.seq none .leaf (.seq none .leaf (.seq none .leaf (.seq none (.one (.loop [11] (.seq none .leaf (.one (.seq none .leaf (.seq none (.seq (some [48]) .leaf .leaf) .leaf)))))) .leaf)))) [p0,p1,p2,p3] bh Tryz.func146 (by kernel_rfl) (by kernel_rfl) h


/- loop.example/prologserver/spec.l1Sign : function 147 -/
def rK (p0 p1 p2:Value) (w:World) (R:Ending->World->Prop):Prop:=
 RR (ao .geq 3 false true p1 (.int .i64 0)) w fun a b=>
 ((fun c:VW=>ag a true (
 RR (aq .len #[9] 3 [false] [p0]) b fun b d=>
 RR (ao .lss 3 false false p1 b) d fun b d=>
 RR (sOp (.pick (.const a) (.const b) (.const (.bool false))) 4) d fun a b=>c a b) (
 RR (sOp (.pick (.const a) (.const undef) (.const (.bool false))) 4) b fun a b=>c a b)) fun a b=>
 ag a true (
 RR (sOp (.index 9 (.const p0) (.const p1)) 5) b fun b c=>
 RR (ao .eql 5 false false b p2) c fun b c=>
 RR (sOp (.pick (.const a) (.const b) (.const (.bool false))) 4) c fun a b=>
 R (.returned a) b) (
 RR (sOp (.pick (.const a) (.const undef) (.const (.bool false))) 4) b fun a b=>
 R (.returned a) b))
theorem uK {p0 p1 p2:Value} {w:World} {R:Ending->World->Prop} (h:rK p0 p1 p2 w R):Calls Tryz.prog 147 #[p0,p1,p2] w R:=
  aN .leaf [p0,p1,p2] bh Tryz.func147 (by kernel_rfl) (by kernel_rfl) h


/- loop.example/prologserver/spec.l4Goals : function 148 -/
def oh (p0 p1:Value) (w:World) (R:Ending->World->Prop):Prop:=
 RR (aW 23 0 []) w fun a b=>
 (∃ (c:Value->Value->World->Prop) (d:Value->Value->World->Nat),c p1 a b/\
 ∀ a _ _ _ _ _ _ _ _ b _ _ _ _ _ _ _ _ _ _ _ _ _ _ _ _ _ _ _:Value,∀ e:World,c a b e->
 RR (aq .len #[23] 3 [false] [b]) e fun f g=>
 RR (ao .leq 3 false true f (.int .i64 6)) g fun f g=>
 CondV f (
 RR (aH (.func (.func 146) #[] #[]) [p0,a,(.int .i64 30),(.int .i64 3)]) g fun f g=>
 RR (sOp (.extract (.const f) 0) 25) g fun g h=>
 RR (sOp (.extract (.const f) 1) 3) h fun f h=>
 RR (sOp (.alloc 25) 0) h fun h i=>
 RR (sOp (.store 25 (.const h) (.const g)) 0) i fun _ g=>
 RR (ao .lss 3 false true f (.int .i64 0)) g fun g i=>
 CondV g (
 R (.returned (.tuple #[(Value.slice none 0 0),(.int .i64 (-1))])) i) (
 RR (sOp (.load 25 (.const h)) 25) i fun g h=>
 RR (aW 23 1 [(0,g)]) h fun g h=>
 RR (aq .append #[23,23] 23 [false,false] [b,g]) h fun g h=>
 RR (aH (.func (.func 147) #[] #[]) [p0,f,(.int .u8 44)]) h fun h i=>
 RR (sOp (.unOp .not 4 (.const h)) 4) i fun h i=>
 CondV h (
 R (.returned (.tuple #[g,f])) i) (
 RR (ao .add 3 false true f (.int .i64 1)) i fun f h=>
 c f g h/\d f g h<d a b e))) (
 R (.returned (.tuple #[(Value.slice none 0 0),(.int .i64 (-1))])) g))
theorem rR {p0 p1:Value} {w:World} {R:Ending->World->Prop} (h:oh p0 p1 w R):Calls Tryz.prog 148 #[p0,p1] w R:=
  aN (.seq none .leaf (.seq none .leaf (.seq none (.one (.loop [1,6] .leaf)) .leaf))) [p0,p1] bh Tryz.func148 (by kernel_rfl) (by kernel_rfl) h


/- loop.example/prologserver/spec.FormatClause : function 149 -/
def iM (p0:Value) (w:World) (R:Ending->World->Prop):Prop:=
 RR (sOp (.box 39 (.const p0)) 0) w fun a b=>
 RR (sOp (.load 39 (.const a)) 39) b fun b c=>
 RR (aH (.func (.func 96) #[] #[]) [b]) c fun b c=>
 RR (sOp (.unOp .not 4 (.const b)) 4) c fun b c=>
 CondV b (
 R (.returned (.string ⟨#[]⟩)) c) (
 RR (sOp (.load 39 (.const a)) 39) c fun a b=>
 RR (aH (.func (.func 172) #[] #[]) [a]) b fun a b=>
 R (.returned a) b)
theorem lu {p0:Value} {w:World} {R:Ending->World->Prop} (h:iM p0 w R):Calls Tryz.prog 149 #[p0] w R:=
  aN .leaf [p0] bh Tryz.func149 (by kernel_rfl) (by kernel_rfl) h


/- loop.example/prologserver/spec.l1Var : function 150 -/
def s0 (p0:Value) (w:World) (R:Ending->World->Prop):Prop:=
 RR (sOp (.alloc 25) 0) w fun a b=>
 RR (cK 25 [(0,(.int .i64 1)),(1,p0)]) b fun b c=>
 RR (sOp (.store 25 (.const a) (.const b)) 0) c fun _ b=>
 (a4 Tryz.prog 25 a b fun a=>R (.returned a) b)
theorem u2 {p0:Value} {w:World} {R:Ending->World->Prop} (h:s0 p0 w R):Calls Tryz.prog 150 #[p0] w R:=
  aN .leaf [p0] bh Tryz.func150 (by kernel_rfl) (by kernel_rfl) h


/- loop.example/prologserver/spec.l1Digit : function 151 -/
def n9 (p0 p1:Value) (w:World) (R:Ending->World->Prop):Prop:=
 RR (ao .geq 3 false true p1 (.int .i64 0)) w fun a b=>
 ((fun c:VW=>ag a true (
 RR (aq .len #[9] 3 [false] [p0]) b fun b d=>
 RR (ao .lss 3 false false p1 b) d fun b d=>
 RR (sOp (.pick (.const a) (.const b) (.const (.bool false))) 4) d fun a b=>c a b) (
 RR (sOp (.pick (.const a) (.const undef) (.const (.bool false))) 4) b fun a b=>c a b)) fun a b=>
 ((fun c:VW=>ag a true (
 RR (sOp (.index 9 (.const p0) (.const p1)) 5) b fun b d=>
 RR (ao .geq 5 false true b (.int .u8 48)) d fun b d=>
 RR (sOp (.pick (.const a) (.const b) (.const (.bool false))) 4) d fun a b=>c a b) (
 RR (sOp (.pick (.const a) (.const undef) (.const (.bool false))) 4) b fun a b=>c a b)) fun a b=>
 ag a true (
 RR (sOp (.index 9 (.const p0) (.const p1)) 5) b fun b c=>
 RR (ao .leq 5 false true b (.int .u8 57)) c fun b c=>
 RR (sOp (.pick (.const a) (.const b) (.const (.bool false))) 4) c fun a b=>
 R (.returned a) b) (
 RR (sOp (.pick (.const a) (.const undef) (.const (.bool false))) 4) b fun a b=>
 R (.returned a) b)))
theorem sj {p0 p1:Value} {w:World} {R:Ending->World->Prop} (h:n9 p0 p1 w R):Calls Tryz.prog 151 #[p0,p1] w R:=
  aN .leaf [p0,p1] bh Tryz.func151 (by kernel_rfl) (by kernel_rfl) h


/- loop.example/prologserver/spec.l1Number : function 152 -/
def mq (p0 p1:Value) (w:World) (R:Ending->World->Prop):Prop:=
 RR (sOp (.alloc 25) 0) w fun a b=>
 (∃ c:Value->World->Prop,(
 RR (aH (.func (.func 147) #[] #[]) [p0,p1,(.int .u8 45)]) b fun a b=>
 CondV a (
 RR (ao .add 3 false true p1 (.int .i64 1)) b fun a b=>
 c a b) (
 c p1 b))/\
 ∀ b _ _ _ _ _:Value,∀ d:World,c b d->
 (∃ (c:Value->World->Prop) (e:Value->World->Nat),c b d/\
 ∀ d _ _ _ _ _ _ _ _ _ _ _:Value,∀ f:World,c d f->
 (∃ g:Value->World->Prop,(
 RR (aH (.func (.func 151) #[] #[]) [p0,d]) f fun a c=>
 ag a true (
 RR (ao .add 3 false true b (.int .i64 4)) c fun b c=>
 RR (ao .lss 3 false false d b) c fun b c=>
 RR (sOp (.pick (.const a) (.const b) (.const (.bool false))) 4) c fun a b=>
 g a b) (
 RR (sOp (.pick (.const a) (.const undef) (.const (.bool false))) 4) c fun a b=>
 g a b))/\
 ∀ h _ _ _ _ _ _ _ _:Value,∀ i:World,g h i->
 CondV h (
 RR (ao .add 3 false true d (.int .i64 1)) i fun a b=>
 c a b/\e a b<e d f) (
 RR (sOp (.slice 9 (.const p0) (some (.const b)) (some (.const d)) none) 9) i fun c e=>
 RR (aH (.func (.func 173) #[] #[]) [c]) e fun c e=>
 RR (sOp (.extract (.const c) 0) 3) e fun e f=>
 RR (sOp (.extract (.const c) 1) 4) f fun c f=>
 (∃ g:Value->World->Prop,(
 RR (sOp (.unOp .not 4 (.const c)) 4) f fun a c=>
 ag a false (
 RR (ao .gtr 3 false false b p1) c fun b c=>
 ag b true (
 RR (ao .eql 3 false true e (.int .i64 0)) c fun c d=>
 ((fun e:VW=>ag a false (
 RR (sOp (.pick (.const b) (.const c) (.const (.bool false))) 4) d fun b c=>
 RR (sOp (.pick (.const a) (.const (.bool true)) (.const b)) 4) c fun a b=>e a b) (
 RR (sOp (.pick (.const a) (.const (.bool true)) (.const undef)) 4) d fun a b=>e a b)) fun a b=>
 ag a false (
 RR (ao .gtr 3 false true e (.int .i64 999)) b fun b c=>
 RR (sOp (.pick (.const a) (.const (.bool true)) (.const b)) 4) c fun a b=>
 g a b) (
 RR (sOp (.pick (.const a) (.const (.bool true)) (.const undef)) 4) b fun a b=>
 g a b))) (
 ((fun d:VW=>ag a false (
 RR (sOp (.pick (.const b) (.const undef) (.const (.bool false))) 4) c fun b c=>
 RR (sOp (.pick (.const a) (.const (.bool true)) (.const b)) 4) c fun a b=>d a b) (
 RR (sOp (.pick (.const a) (.const (.bool true)) (.const undef)) 4) c fun a b=>d a b)) fun a b=>
 ag a false (
 RR (ao .gtr 3 false true e (.int .i64 999)) b fun b c=>
 RR (sOp (.pick (.const a) (.const (.bool true)) (.const b)) 4) c fun a b=>
 g a b) (
 RR (sOp (.pick (.const a) (.const (.bool true)) (.const undef)) 4) b fun a b=>
 g a b)))) (
 ag undef true (
 RR (ao .eql 3 false true e (.int .i64 0)) c fun b c=>
 ((fun d:VW=>ag a false (
 RR (sOp (.pick (.const undef) (.const b) (.const (.bool false))) 4) c fun b c=>
 RR (sOp (.pick (.const a) (.const (.bool true)) (.const b)) 4) c fun a b=>d a b) (
 RR (sOp (.pick (.const a) (.const (.bool true)) (.const undef)) 4) c fun a b=>d a b)) fun a b=>
 ag a false (
 RR (ao .gtr 3 false true e (.int .i64 999)) b fun b c=>
 RR (sOp (.pick (.const a) (.const (.bool true)) (.const b)) 4) c fun a b=>
 g a b) (
 RR (sOp (.pick (.const a) (.const (.bool true)) (.const undef)) 4) b fun a b=>
 g a b))) (
 ((fun b:VW=>ag a false (
 RR (sOp (.pick (.const undef) (.const undef) (.const (.bool false))) 4) c fun c d=>
 RR (sOp (.pick (.const a) (.const (.bool true)) (.const c)) 4) d fun a c=>b a c) (
 RR (sOp (.pick (.const a) (.const (.bool true)) (.const undef)) 4) c fun a c=>b a c)) fun a b=>
 ag a false (
 RR (ao .gtr 3 false true e (.int .i64 999)) b fun b c=>
 RR (sOp (.pick (.const a) (.const (.bool true)) (.const b)) 4) c fun a b=>
 g a b) (
 RR (sOp (.pick (.const a) (.const (.bool true)) (.const undef)) 4) b fun a b=>
 g a b)))))/\
 ∀ c _ _ _ _ _ _ _ _ _ _ _ _ _ _:Value,∀ f:World,g c f->
 CondV c (
 RR (cK 25 []) f fun b c=>
 RR (sOp (.store 25 (.const a) (.const b)) 0) c fun _ b=>
 (a4 Tryz.prog 25 a b fun a=>R (.returned (.tuple #[a,(.int .i64 (-1))])) b)) (
 (∃ c:Value->World->Prop,(
 RR (ao .gtr 3 false false b p1) f fun a b=>
 CondV a (
 RR (sOp (.unOp .neg 3 (.const e)) 3) b fun a b=>
 c a b) (
 c e b))/\
 ∀ b _ _ _ _ _:Value,∀ e:World,c b e->
 RR (aH (.func (.func 77) #[] #[]) [b]) e fun b c=>
 RR (sOp (.store 25 (.const a) (.const b)) 0) c fun _ b=>
 (a4 Tryz.prog 25 a b fun a=>R (.returned (.tuple #[a,d])) b))))))))
theorem qc {p0 p1:Value} {w:World} {R:Ending->World->Prop} (h:mq p0 p1 w R):Calls Tryz.prog 152 #[p0,p1] w R:=
  aN (.seq none .leaf (.seq none .leaf (.seq (some [6]) .leaf (.seq none .leaf (.seq none (.one (.loop [6] (.seq none (.seq (some [25]) .leaf .leaf) .leaf))) (.seq none .leaf (.seq none (.seq (some [50]) .leaf .leaf) (.seq (some [8]) .leaf .leaf)))))))) [p0,p1] bh Tryz.func152 (by kernel_rfl) (by kernel_rfl) h


/- loop.example/prologserver/spec.l1Name : function 154 -/
def rg (p0 p1:Value) (w:World) (R:Ending->World->Prop):Prop:=
 (∃ (a:Value->World->Prop) (b:Value->World->Nat),a p1 w/\
 ∀ c _ _ _ _ _:Value,∀ d:World,a c d->
 RR (aH (.func (.func 175) #[] #[]) [p0,c]) d fun e f=>
 CondV e (
 RR (ao .add 3 false true c (.int .i64 1)) f fun e f=>
 a e f/\b e f<b c d) (
 RR (ao .add 3 false true p1 (.int .i64 6)) f fun a b=>
 RR (ao .gtr 3 false false c a) b fun a b=>
 CondV a (
 R (.returned (.tuple #[(.string ⟨#[]⟩),(.int .i64 (-1))])) b) (
 RR (ao .gtr 3 false false c p1) b fun a b=>
 CondV a (
 RR (sOp (.slice 9 (.const p0) (some (.const p1)) (some (.const c)) none) 9) b fun a b=>
 R (.returned (.tuple #[a,c])) b) (
 RR (aH (.func (.func 176) #[] #[]) []) b fun a b=>
 (∃ (c:Value->Value->World->Prop) (d:Value->Value->World->Nat),c (.int .i64 0) (.string ⟨#[]⟩) b/\
 ∀ b _ _ e _ _ _ _ f g h i j k l m n o p q r s t u v x y z A B C D E _ _ _ _ _ _ _ _ _ _:Value,∀ F:World,c b e F->
 RR (aq .len #[67] 3 [false] [a]) F fun G H=>
 RR (ao .lss 3 false false b G) H fun G H=>
 CondV G (
 (∃ G:Value->World->Prop,(
 RR (sOp (.indexAddr 67 (.const a) (.const b)) 0) H fun c d=>
 RR (sOp (.load 9 (.const c)) 9) d fun c d=>
 RR (aq .len #[9] 3 [false] [c]) d fun c d=>
 (∃ F:(Nat->Bool)->Value->Value->Value->Value->Value->Value->Value->Value->Value->Value->Value->Value->Value->Value->Value->Value->Value->Value->Value->Value->Value->Value->Value->Value->Value->World->Prop,F (fun _=>false) f g h i j k l m n o p q r s t u v x y z A B C D E { d with drawn:=d.drawn+1 }/\(
 (∀ a:Nat->Bool,a 0=false->∀ b c d e f g h i j k l m n o p q r s t u v x y z A B,F a b c d e f g h i j k l m n o p q r s t u v x y z A B->
 F (aw a 0) b c d e f g h i j k l m n o p q r s t u v x y z p1 B)/\
 (∀ a:Nat->Bool,a 1=false->∀ b d e f g h i j k l m n o p q r s t u v x y z A B C,F a b d e f g h i j k l m n o p q r s t u v x y z A B C->
 F (aw a 1) b d e f g h i j k l m n o p q r s t u v x y z c B C)/\
 (∀ a:Nat->Bool,a 2=false->a 0=true->a 1=true->∀ b c d e f g h i j k l m n o p q r s t u v x y z A B,F a b c d e f g h i j k l m n o p q r s t u v x y z A B->
 RR (ao .add 3 false false A z) B fun y B=>
 F (aw a 2) b c d e f g h i j k l m n o p q r s t u v x y z A B)/\
 (∀ a:Nat->Bool,a 3=false->∀ b c d e f g h i j k l m n o p q r s t u v x y z A B,F a b c d e f g h i j k l m n o p q r s t u v x y z A B->
 F (aw a 3) b c d e f g h i j k l m n o p q r s t u v p0 y z A B)/\
 (∀ a:Nat->Bool,a 4=false->a 3=true->∀ b c d e f g h i j k l m n o p q r s t u v x y z A B,F a b c d e f g h i j k l m n o p q r s t u v x y z A B->
 RR (aq .len #[9] 3 [false] [x]) B fun v B=>
 F (aw a 4) b c d e f g h i j k l m n o p q r s t u v x y z A B)/\
 (∀ a:Nat->Bool,a 5=false->a 2=true->a 4=true->∀ b c d e f g h i j k l m n o p q r s t u v x y z A B,F a b c d e f g h i j k l m n o p q r s t u v x y z A B->
 RR (ao .leq 3 false false y v) B fun u B=>
 F (aw a 5) b c d e f g h i j k l m n o p q r s t u v x y z A B)/\
 (∀ a:Nat->Bool,a 6=false->a 5=true->∀ b c d e f g h i j k l m n o p q r s t u v x y z A B,F a b c d e f g h i j k l m n o p q r s t u v x y z A B->
 F (aw a 6) b c d e f g h i j k l m n o p q r s u u v x y z A B)/\
 (∀ a:Nat->Bool,a 7=false->a 6=true->∀ b c d e f g h i j k l m n o p q r s t u v x y z A B,F a b c d e f g h i j k l m n o p q r s t u v x y z A B->
 ag t true (F (aw a 7) b c d e f g h i j k l m n o p q r p0 t u v x y z A B) (F (aw a 7) b c d e f g h i j k l m n o p q r undef t u v x y z A B))/\
 (∀ a:Nat->Bool,a 8=false->a 6=true->∀ b c d e f g h i j k l m n o p q r s t u v x y z A B,F a b c d e f g h i j k l m n o p q r s t u v x y z A B->
 ag t true (F (aw a 8) b c d e f g h i j k l m n o p q p1 s t u v x y z A B) (F (aw a 8) b c d e f g h i j k l m n o p q undef s t u v x y z A B))/\
 (∀ a:Nat->Bool,a 9=false->a 6=true->∀ b c d e f g h i j k l m n o p q r s t u v x y z A B,F a b c d e f g h i j k l m n o p q r s t u v x y z A B->
 ag t true (F (aw a 9) b c d e f g h i j k l m n o p p1 r s t u v x y z A B) (F (aw a 9) b c d e f g h i j k l m n o p undef r s t u v x y z A B))/\
 (∀ a:Nat->Bool,a 10=false->a 6=true->∀ b d e f g h i j k l m n o p q r s t u v x y z A B C,F a b d e f g h i j k l m n o p q r s t u v x y z A B C->
 ag u true (F (aw a 10) b d e f g h i j k l m n o p c r s t u v x y z A B C) (F (aw a 10) b d e f g h i j k l m n o p undef r s t u v x y z A B C))/\
 (∀ a:Nat->Bool,a 11=false->a 9=true->a 10=true->a 6=true->∀ b c d e f g h i j k l m n o p q r s t u v x y z A B,F a b c d e f g h i j k l m n o p q r s t u v x y z A B->
 ag t true (RR (ao .add 3 false false q p) B fun o B=>
 F (aw a 11) b c d e f g h i j k l m n o p q r s t u v x y z A B) (F (aw a 11) b c d e f g h i j k l m n undef p q r s t u v x y z A B))/\
 (∀ a:Nat->Bool,a 12=false->a 7=true->a 8=true->a 11=true->a 6=true->∀ b c d e f g h i j k l m n o p q r s t u v x y z A B,F a b c d e f g h i j k l m n o p q r s t u v x y z A B->
 ag t true (RR (sOp (.slice 9 (.const s) (some (.const r)) (some (.const o)) none) 9) B fun n B=>
 F (aw a 12) b c d e f g h i j k l m n o p q r s t u v x y z A B) (F (aw a 12) b c d e f g h i j k l m undef o p q r s t u v x y z A B))/\
 (∀ b:Nat->Bool,b 13=false->b 6=true->∀ c d e f g h i j k l m n o p q r s t u v x y z A B C,F b c d e f g h i j k l m n o p q r s t u v x y z A B C->
 ag u true (F (aw b 13) c d e f g h i j k l m a o p q r s t u v x y z A B C) (F (aw b 13) c d e f g h i j k l m undef o p q r s t u v x y z A B C))/\
 (∀ a:Nat->Bool,a 14=false->a 6=true->∀ c d e f g h i j k l m n o p q r s t u v x y z A B C,F a c d e f g h i j k l m n o p q r s t u v x y z A B C->
 ag u true (F (aw a 14) c d e f g h i j k l b n o p q r s t u v x y z A B C) (F (aw a 14) c d e f g h i j k l undef n o p q r s t u v x y z A B C))/\
 (∀ a:Nat->Bool,a 15=false->a 13=true->a 14=true->a 6=true->∀ b c d e f g h i j k l m n o p q r s t u v x y z A B,F a b c d e f g h i j k l m n o p q r s t u v x y z A B->
 ag t true (RR (sOp (.indexAddr 67 (.const m) (.const l)) 0) B fun k B=>
 F (aw a 15) b c d e f g h i j k l m n o p q r s t u v x y z A B) (F (aw a 15) b c d e f g h i j undef l m n o p q r s t u v x y z A B))/\
 (∀ a:Nat->Bool,a 16=false->a 15=true->a 6=true->∀ b c d e f g h i j k l m n o p q r s t u v x y z A B,F a b c d e f g h i j k l m n o p q r s t u v x y z A B->
 ag t true (RR (sOp (.load 9 (.const k)) 9) B fun j B=>
 F (aw a 16) b c d e f g h i j k l m n o p q r s t u v x y z A B) (F (aw a 16) b c d e f g h i undef k l m n o p q r s t u v x y z A B))/\
 (∀ a:Nat->Bool,a 17=false->a 12=true->a 16=true->a 6=true->∀ b c d e f g h i j k l m n o p q r s t u v x y z A B,F a b c d e f g h i j k l m n o p q r s t u v x y z A B->
 ag t true (RR (ao .eql 9 false false n j) B fun i B=>
 F (aw a 17) b c d e f g h i j k l m n o p q r s t u v x y z A B) (F (aw a 17) b c d e f g h undef j k l m n o p q r s t u v x y z A B))/\
 (∀ a:Nat->Bool,a 18=false->a 6=true->a 17=true->∀ b c d e f g h i j k l m n o p q r s t u v x y z A B,F a b c d e f g h i j k l m n o p q r s t u v x y z A B->
 RR (sOp (.pick (.const t) (.const i) (.const (.bool false))) 4) B fun h B=>
 F (aw a 18) b c d e f g h i j k l m n o p q r s t u v x y z A B)/\
 (∀ a:Nat->Bool,a 19=false->a 18=true->a 6=true->∀ b c d e f g h i j k l m n o p q r s t u v x y z A B,F a b c d e f g h i j k l m n o p q r s t u v x y z A B->
 F (aw a 19) b c d e f h h i j k l m n o p q r s t u v x y z A B)/\
 (∀ a:Nat->Bool,a 20=false->a 19=true->∀ b d e f g h i j k l m n o p q r s t u v x y z A B C,F a b d e f g h i j k l m n o p q r s t u v x y z A B C->
 ag h true (F (aw a 20) b d e f c h i j k l m n o p q r s t u v x y z A B C) (F (aw a 20) b d e f undef h i j k l m n o p q r s t u v x y z A B C))/\
 (∀ a:Nat->Bool,a 21=false->a 19=true->∀ b c d f g h i j k l m n o p q r s t u v x y z A B C,F a b c d f g h i j k l m n o p q r s t u v x y z A B C->
 ag h true (F (aw a 21) b c d e g h i j k l m n o p q r s t u v x y z A B C) (F (aw a 21) b c d undef g h i j k l m n o p q r s t u v x y z A B C))/\
 (∀ a:Nat->Bool,a 22=false->a 21=true->a 19=true->∀ b c d e f g h i j k l m n o p q r s t u v x y z A B,F a b c d e f g h i j k l m n o p q r s t u v x y z A B->
 ag g true (RR (aq .len #[9] 3 [false] [e]) B fun d B=>
 F (aw a 22) b c d e f g h i j k l m n o p q r s t u v x y z A B) (F (aw a 22) b c undef e f g h i j k l m n o p q r s t u v x y z A B))/\
 (∀ a:Nat->Bool,a 23=false->a 20=true->a 22=true->a 19=true->∀ b c d e f g h i j k l m n o p q r s t u v x y z A B,F a b c d e f g h i j k l m n o p q r s t u v x y z A B->
 ag g true (RR (ao .gtr 3 false false f d) B fun c B=>
 F (aw a 23) b c d e f g h i j k l m n o p q r s t u v x y z A B) (F (aw a 23) b undef d e f g h i j k l m n o p q r s t u v x y z A B))/\
 (∀ a:Nat->Bool,a 24=false->a 19=true->a 23=true->∀ b c d e f g h i j k l m n o p q r s t u v x y z A B,F a b c d e f g h i j k l m n o p q r s t u v x y z A B->
 RR (sOp (.pick (.const g) (.const c) (.const (.bool false))) 4) B fun b B=>
 F (aw a 24) b c d e f g h i j k l m n o p q r s t u v x y z A B)/\
 True)/\
 ∀ c:Nat->Bool,c 24=true->c 23=true->c 22=true->c 21=true->c 20=true->c 19=true->c 18=true->c 17=true->c 16=true->c 15=true->c 14=true->c 13=true->c 12=true->c 11=true->c 10=true->c 9=true->c 8=true->c 7=true->c 6=true->c 5=true->c 4=true->c 3=true->c 2=true->c 1=true->c 0=true->∀ d f g h i j k l m n o p q r s t u v x y z A B C D E,F c d f g h i j k l m n o p q r s t u v x y z A B C D E->
 CondV d (
 RR (sOp (.indexAddr 67 (.const a) (.const b)) 0) E fun a b=>
 RR (sOp (.load 9 (.const a)) 9) b fun a b=>
 G a b) (
 G e E)))/\
 ∀ a _ _ _ _ _ _ _ _ _ _ _ _ _ _ _ _ _ _ _ _ _ _ _ _ _ _ _ _ _ _ _ _ _ _ _:Value,∀ f:World,G a f->
 RR (ao .add 3 false true b (.int .i64 1)) f fun f g=>
 c f a g/\d f a g<d b e F)) (
 RR (ao .eql 9 false true e (.string ⟨#[]⟩)) H fun a b=>
 CondV a (
 R (.returned (.tuple #[(.string ⟨#[]⟩),(.int .i64 (-1))])) b) (
 RR (aq .len #[9] 3 [false] [e]) b fun a b=>
 RR (ao .add 3 false false p1 a) b fun a b=>
 R (.returned (.tuple #[e,a])) b)))))))
theorem s4 {p0 p1:Value} {w:World} {R:Ending->World->Prop} (h:rg p0 p1 w R):Calls Tryz.prog 154 #[p0,p1] w R:=
  aN (.seq none .leaf (.seq none .leaf (.seq none (.one (.loop [6] .leaf)) (.seq none .leaf (.seq none .leaf (.seq none .leaf (.seq none .leaf (.seq none (.seq none .leaf (.one (.loop [9,7] (.seq none .leaf (.seq (some [7]) .leaf .leaf))))) .leaf)))))))) [p0,p1] bh Tryz.func154 (by kernel_rfl) (by kernel_rfl) h


/- loop.example/prologserver/spec.l1Args : function 155 -/
def rD (p0 p1 p2:Value) (w:World) (R:Ending->World->Prop):Prop:=
 RR (aW 23 0 []) w fun a b=>
 (∃ (c:Value->Value->World->Prop) (d:Value->Value->World->Nat),c p1 a b/\
 ∀ a _ _ _ _ _ _ _ _ _ _ _ _ _ _ b _ _ _ _ _ _ _ _ _ _ _ _ _ _ _ _:Value,∀ e:World,c a b e->
 RR (aq .len #[23] 3 [false] [b]) e fun f g=>
 RR (ao .leq 3 false true f (.int .i64 4)) g fun f g=>
 CondV f (
 RR (aH (.func (.func 122) #[] #[]) [p0,a,p2]) g fun f g=>
 RR (sOp (.extract (.const f) 0) 25) g fun g h=>
 RR (sOp (.extract (.const f) 1) 3) h fun f h=>
 RR (sOp (.alloc 25) 0) h fun h i=>
 RR (sOp (.store 25 (.const h) (.const g)) 0) i fun _ g=>
 RR (sOp (.load 25 (.const h)) 25) g fun g h=>
 RR (aW 23 1 [(0,g)]) h fun g h=>
 RR (aq .append #[23,23] 23 [false,false] [b,g]) h fun g h=>
 RR (aH (.func (.func 147) #[] #[]) [p0,f,(.int .u8 41)]) h fun h i=>
 CondV h (
 RR (ao .add 3 false true f (.int .i64 1)) i fun a b=>
 R (.returned (.tuple #[g,a])) b) (
 RR (aH (.func (.func 147) #[] #[]) [p0,f,(.int .u8 44)]) i fun h i=>
 RR (sOp (.unOp .not 4 (.const h)) 4) i fun h i=>
 CondV h (
 R (.returned (.tuple #[(Value.slice none 0 0),(.int .i64 (-1))])) i) (
 RR (ao .add 3 false true f (.int .i64 1)) i fun f h=>
 c f g h/\d f g h<d a b e))) (
 R (.returned (.tuple #[(Value.slice none 0 0),(.int .i64 (-1))])) g))
theorem ud {p0 p1 p2:Value} {w:World} {R:Ending->World->Prop} (h:rD p0 p1 p2 w R):Calls Tryz.prog 155 #[p0,p1,p2] w R:=
  aN (.seq none .leaf (.seq none .leaf (.seq none (.one (.loop [1,8] .leaf)) .leaf))) [p0,p1,p2] bh Tryz.func155 (by kernel_rfl) (by kernel_rfl) h


/- loop.example/prologserver/spec.l1Text : function 156 -/
def lz (p0:Value) (w:World) (R:Ending->World->Prop):Prop:=
 RR (sOp (.box 25 (.const p0)) 0) w fun a b=>
 RR (sOp (.fieldAddr 25 (.const a) 0) 0) b fun b c=>
 RR (sOp (.load 3 (.const b)) 3) c fun b c=>
 RR (ao .eql 3 false true b (.int .i64 1)) c fun c d=>
 CondV c (
 RR (sOp (.fieldAddr 25 (.const a) 1) 0) d fun a b=>
 RR (sOp (.load 3 (.const a)) 3) b fun a b=>
 RR (aH (.func (.func 177) #[] #[]) [a]) b fun a b=>
 R (.returned a) b) (
 RR (ao .eql 3 false true b (.int .i64 2)) d fun b c=>
 CondV b (
 RR (sOp (.fieldAddr 25 (.const a) 1) 0) c fun a b=>
 RR (sOp (.load 3 (.const a)) 3) b fun a b=>
 RR (aH (.func (.func 178) #[] #[]) [a]) b fun a b=>
 R (.returned a) b) (
 RR (sOp (.load 25 (.const a)) 25) c fun b c=>
 RR (aH (.func (.func 179) #[] #[]) [b]) c fun b c=>
 CondV b (
 RR (sOp (.load 25 (.const a)) 25) c fun a b=>
 RR (aH (.func (.func 180) #[] #[]) [a]) b fun a b=>
 R (.returned a) b) (
 RR (sOp (.fieldAddr 25 (.const a) 2) 0) c fun b c=>
 RR (sOp (.load 9 (.const b)) 9) c fun b c=>
 (∃ (d:Value->Value->World->Prop) (e:Value->Value->World->Nat),d (.int .i64 0) b c/\
 ∀ b _ _ _ _ _ _ _ _ _ _ _ _ c _ _ _ _ _ _ _ _ _:Value,∀ f:World,d b c f->
 RR (sOp (.fieldAddr 25 (.const a) 3) 0) f fun g h=>
 RR (sOp (.load 23 (.const g)) 23) h fun g h=>
 RR (aq .len #[23] 3 [false] [g]) h fun g h=>
 RR (ao .lss 3 false false b g) h fun g h=>
 CondV g (
 (∃ g:Value->World->Prop,(
 RR (ao .eql 3 false true b (.int .i64 0)) h fun a b=>
 CondV a (
 RR (ao .add 9 false true c (.string ⟨#[40]⟩)) b fun a b=>
 g a b) (
 RR (ao .add 9 false true c (.string ⟨#[44]⟩)) b fun a b=>
 g a b))/\
 ∀ _ _ h _ _ _ _:Value,∀ i:World,g h i->
 RR (sOp (.fieldAddr 25 (.const a) 3) 0) i fun a g=>
 RR (sOp (.load 23 (.const a)) 23) g fun a g=>
 RR (sOp (.indexAddr 23 (.const a) (.const b)) 0) g fun a g=>
 RR (sOp (.load 25 (.const a)) 25) g fun a g=>
 RR (aH (.func (.func 156) #[] #[]) [a]) g fun a g=>
 RR (ao .add 9 false false h a) g fun a g=>
 RR (ao .add 3 false true b (.int .i64 1)) g fun g h=>
 d g a h/\e g a h<e b c f)) (
 (∃ b:Value->World->Prop,(
 RR (sOp (.fieldAddr 25 (.const a) 3) 0) h fun a d=>
 RR (sOp (.load 23 (.const a)) 23) d fun a d=>
 RR (aq .len #[23] 3 [false] [a]) d fun a d=>
 RR (ao .gtr 3 false true a (.int .i64 0)) d fun a d=>
 CondV a (
 RR (ao .add 9 false true c (.string ⟨#[41]⟩)) d fun a c=>
 b a c) (
 b c d))/\
 ∀ a _ _ _ _ _ _:Value,∀ c:World,b a c->
 R (.returned a) c))))))
theorem kR {p0:Value} {w:World} {R:Ending->World->Prop} (h:lz p0 w R):Calls Tryz.prog 156 #[p0] w R:=
  aN (.seq none .leaf (.seq none .leaf (.seq none .leaf (.seq none .leaf (.seq none (.seq none .leaf (.one (.loop [4,3] (.seq none .leaf (.seq none (.one (.seq (some [3]) .leaf .leaf)) .leaf))))) (.seq (some [3]) .leaf .leaf)))))) [p0] bh Tryz.func156 (by kernel_rfl) (by kernel_rfl) h


/- loop.example/prologserver/spec.l1Own : function 157 -/
def sP (p0:Value) (w:World) (R:Ending->World->Prop):Prop:=
 RR (sOp (.box 25 (.const p0)) 0) w fun a b=>
 RR (sOp (.fieldAddr 25 (.const a) 0) 0) b fun b c=>
 RR (sOp (.load 3 (.const b)) 3) c fun b c=>
 RR (ao .eql 3 false true b (.int .i64 1)) c fun c d=>
 CondV c (
 RR (sOp (.fieldAddr 25 (.const a) 1) 0) d fun b c=>
 RR (sOp (.load 3 (.const b)) 3) c fun b c=>
 RR (ao .geq 3 false true b (.int .i64 0)) c fun b c=>
 ((fun d:VW=>ag b true (
 RR (sOp (.fieldAddr 25 (.const a) 1) 0) c fun a c=>
 RR (sOp (.load 3 (.const a)) 3) c fun a c=>
 RR (ao .leq 3 false true a (.int .i64 25)) c fun a c=>
 RR (sOp (.pick (.const b) (.const a) (.const (.bool false))) 4) c fun a b=>d a b) (
 RR (sOp (.pick (.const b) (.const undef) (.const (.bool false))) 4) c fun a b=>d a b)) fun b c=>
 ((fun d:VW=>ag b true (
 RR (sOp (.fieldAddr 25 (.const a) 2) 0) c fun a c=>
 RR (sOp (.load 9 (.const a)) 9) c fun a c=>
 RR (ao .eql 9 false true a (.string ⟨#[]⟩)) c fun a c=>
 RR (sOp (.pick (.const b) (.const a) (.const (.bool false))) 4) c fun a b=>d a b) (
 RR (sOp (.pick (.const b) (.const undef) (.const (.bool false))) 4) c fun a b=>d a b)) fun b c=>
 ag b true (
 RR (sOp (.fieldAddr 25 (.const a) 3) 0) c fun a c=>
 RR (sOp (.load 23 (.const a)) 23) c fun a c=>
 RR (aq .len #[23] 3 [false] [a]) c fun a c=>
 RR (ao .eql 3 false true a (.int .i64 0)) c fun a c=>
 RR (sOp (.pick (.const b) (.const a) (.const (.bool false))) 4) c fun a b=>
 R (.returned a) b) (
 RR (sOp (.pick (.const b) (.const undef) (.const (.bool false))) 4) c fun a b=>
 R (.returned a) b)))) (
 RR (ao .eql 3 false true b (.int .i64 2)) d fun c d=>
 CondV c (
 RR (sOp (.fieldAddr 25 (.const a) 1) 0) d fun b c=>
 RR (sOp (.load 3 (.const b)) 3) c fun b c=>
 RR (ao .geq 3 false true b (.int .i64 (-999))) c fun b c=>
 ((fun d:VW=>ag b true (
 RR (sOp (.fieldAddr 25 (.const a) 1) 0) c fun a c=>
 RR (sOp (.load 3 (.const a)) 3) c fun a c=>
 RR (ao .leq 3 false true a (.int .i64 999)) c fun a c=>
 RR (sOp (.pick (.const b) (.const a) (.const (.bool false))) 4) c fun a b=>d a b) (
 RR (sOp (.pick (.const b) (.const undef) (.const (.bool false))) 4) c fun a b=>d a b)) fun b c=>
 ((fun d:VW=>ag b true (
 RR (sOp (.fieldAddr 25 (.const a) 2) 0) c fun a c=>
 RR (sOp (.load 9 (.const a)) 9) c fun a c=>
 RR (ao .eql 9 false true a (.string ⟨#[]⟩)) c fun a c=>
 RR (sOp (.pick (.const b) (.const a) (.const (.bool false))) 4) c fun a b=>d a b) (
 RR (sOp (.pick (.const b) (.const undef) (.const (.bool false))) 4) c fun a b=>d a b)) fun b c=>
 ag b true (
 RR (sOp (.fieldAddr 25 (.const a) 3) 0) c fun a c=>
 RR (sOp (.load 23 (.const a)) 23) c fun a c=>
 RR (aq .len #[23] 3 [false] [a]) c fun a c=>
 RR (ao .eql 3 false true a (.int .i64 0)) c fun a c=>
 RR (sOp (.pick (.const b) (.const a) (.const (.bool false))) 4) c fun a b=>
 R (.returned a) b) (
 RR (sOp (.pick (.const b) (.const undef) (.const (.bool false))) 4) c fun a b=>
 R (.returned a) b)))) (
 RR (ao .eql 3 false true b (.int .i64 3)) d fun b c=>
 CondV b (
 RR (sOp (.fieldAddr 25 (.const a) 1) 0) c fun b c=>
 RR (sOp (.load 3 (.const b)) 3) c fun b c=>
 RR (ao .eql 3 false true b (.int .i64 0)) c fun b c=>
 ((fun d:VW=>ag b true (
 RR (sOp (.fieldAddr 25 (.const a) 2) 0) c fun a c=>
 RR (sOp (.load 9 (.const a)) 9) c fun a c=>
 RR (aH (.func (.func 181) #[] #[]) [a]) c fun a c=>
 RR (sOp (.pick (.const b) (.const a) (.const (.bool false))) 4) c fun a b=>d a b) (
 RR (sOp (.pick (.const b) (.const undef) (.const (.bool false))) 4) c fun a b=>d a b)) fun b c=>
 ag b true (
 RR (sOp (.fieldAddr 25 (.const a) 3) 0) c fun a c=>
 RR (sOp (.load 23 (.const a)) 23) c fun a c=>
 RR (aq .len #[23] 3 [false] [a]) c fun a c=>
 RR (ao .leq 3 false true a (.int .i64 4)) c fun a c=>
 RR (sOp (.pick (.const b) (.const a) (.const (.bool false))) 4) c fun a b=>
 R (.returned a) b) (
 RR (sOp (.pick (.const b) (.const undef) (.const (.bool false))) 4) c fun a b=>
 R (.returned a) b))) (
 R (.returned (.bool false)) c)))
theorem vK {p0:Value} {w:World} {R:Ending->World->Prop} (h:sP p0 w R):Calls Tryz.prog 157 #[p0] w R:=
  aN .leaf [p0] bh Tryz.func157 (by kernel_rfl) (by kernel_rfl) h


/- loop.example/prologserver/impl.symbols : function 158 -/
def nR (w:World) (R:Ending->World->Prop):Prop:=
 RR (aW 67 15 [(0,(.string ⟨#[43]⟩)),(1,(.string ⟨#[45]⟩)),(2,(.string ⟨#[42]⟩)),(3,(.string ⟨#[47,47]⟩)),(4,(.string ⟨#[61]⟩)),(5,(.string ⟨#[92,61]⟩)),(6,(.string ⟨#[61,61]⟩)),(7,(.string ⟨#[60]⟩)),(8,(.string ⟨#[62]⟩)),(9,(.string ⟨#[61,60]⟩)),(10,(.string ⟨#[62,61]⟩)),(11,(.string ⟨#[61,58,61]⟩)),(12,(.string ⟨#[46]⟩)),(13,(.string ⟨#[91,93]⟩)),(14,(.string ⟨#[33]⟩))]) w fun a b=>
 R (.returned a) b
theorem sI {w:World} {R:Ending->World->Prop} (h:nR w R):Calls Tryz.prog 158 #[] w R:=
  aN .leaf [] bh Tryz.func158 (by kernel_rfl) (by kernel_rfl) h


/- loop.example/prologserver/spec.l4Goal : function 161 -/
def rq (p0:Value) (w:World) (R:Ending->World->Prop):Prop:=
 RR (sOp (.box 25 (.const p0)) 0) w fun a b=>
 RR (sOp (.load 25 (.const a)) 25) b fun b c=>
 RR (aH (.func (.func 184) #[] #[]) [b]) c fun b c=>
 ((fun d:VW=>ag b false (
 RR (sOp (.load 25 (.const a)) 25) c fun a c=>
 RR (aH (.func (.func 135) #[] #[]) [a]) c fun a c=>
 RR (sOp (.pick (.const b) (.const (.bool true)) (.const a)) 4) c fun a b=>d a b) (
 RR (sOp (.pick (.const b) (.const (.bool true)) (.const undef)) 4) c fun a b=>d a b)) fun b c=>
 ag b false (
 RR (sOp (.fieldAddr 25 (.const a) 0) 0) c fun c d=>
 RR (sOp (.load 3 (.const c)) 3) d fun c d=>
 RR (ao .eql 3 false true c (.int .i64 3)) d fun c d=>
 ag c true (
 RR (sOp (.fieldAddr 25 (.const a) 2) 0) d fun d e=>
 RR (sOp (.load 9 (.const d)) 9) e fun d e=>
 RR (sOp (.fieldAddr 25 (.const a) 3) 0) e fun a e=>
 RR (sOp (.load 23 (.const a)) 23) e fun a e=>
 RR (aq .len #[23] 3 [false] [a]) e fun a e=>
 RR (aH (.func (.func 163) #[] #[]) [d,a]) e fun a d=>
 ag b false (
 RR (sOp (.pick (.const c) (.const a) (.const (.bool false))) 4) d fun a c=>
 RR (sOp (.pick (.const b) (.const (.bool true)) (.const a)) 4) c fun a b=>
 R (.returned a) b) (
 RR (sOp (.pick (.const b) (.const (.bool true)) (.const undef)) 4) d fun a b=>
 R (.returned a) b)) (
 ag b false (
 RR (sOp (.pick (.const c) (.const undef) (.const (.bool false))) 4) d fun a c=>
 RR (sOp (.pick (.const b) (.const (.bool true)) (.const a)) 4) c fun a b=>
 R (.returned a) b) (
 RR (sOp (.pick (.const b) (.const (.bool true)) (.const undef)) 4) d fun a b=>
 R (.returned a) b))) (
 ag undef true (
 RR (sOp (.fieldAddr 25 (.const a) 2) 0) c fun c d=>
 RR (sOp (.load 9 (.const c)) 9) d fun c d=>
 RR (sOp (.fieldAddr 25 (.const a) 3) 0) d fun a d=>
 RR (sOp (.load 23 (.const a)) 23) d fun a d=>
 RR (aq .len #[23] 3 [false] [a]) d fun a d=>
 RR (aH (.func (.func 163) #[] #[]) [c,a]) d fun a c=>
 ag b false (
 RR (sOp (.pick (.const undef) (.const a) (.const (.bool false))) 4) c fun a c=>
 RR (sOp (.pick (.const b) (.const (.bool true)) (.const a)) 4) c fun a b=>
 R (.returned a) b) (
 RR (sOp (.pick (.const b) (.const (.bool true)) (.const undef)) 4) c fun a b=>
 R (.returned a) b)) (
 ag b false (
 RR (sOp (.pick (.const undef) (.const undef) (.const (.bool false))) 4) c fun a c=>
 RR (sOp (.pick (.const b) (.const (.bool true)) (.const a)) 4) c fun a b=>
 R (.returned a) b) (
 RR (sOp (.pick (.const b) (.const (.bool true)) (.const undef)) 4) c fun a b=>
 R (.returned a) b))))
theorem tZ {p0:Value} {w:World} {R:Ending->World->Prop} (h:rq p0 w R):Calls Tryz.prog 161 #[p0] w R:=
  aN .leaf [p0] bh Tryz.func161 (by kernel_rfl) (by kernel_rfl) h


/- loop.example/prologserver/spec.l1Word : function 162 -/
def qW (p0:Value) (w:World) (R:Ending->World->Prop):Prop:=
 (∃ (a:Value->World->Prop) (b:Value->World->Nat),a (.int .i64 0) w/\
 ∀ c _ _ _ _ _ _ _ _ _ _ _ _ _ _ _ _ _:Value,∀ d:World,a c d->
 RR (aq .len #[9] 3 [false] [p0]) d fun e f=>
 RR (ao .lss 3 false false c e) f fun e f=>
 CondV e (
 (∃ e:Value->World->Prop,(
 RR (sOp (.index 9 (.const p0) (.const c)) 5) f fun a b=>
 RR (ao .lss 5 false true a (.int .u8 97)) b fun a b=>
 ag a false (
 RR (sOp (.index 9 (.const p0) (.const c)) 5) b fun b c=>
 RR (ao .gtr 5 false true b (.int .u8 122)) c fun b c=>
 RR (sOp (.pick (.const a) (.const (.bool true)) (.const b)) 4) c fun a b=>
 e a b) (
 RR (sOp (.pick (.const a) (.const (.bool true)) (.const undef)) 4) b fun a b=>
 e a b))/\
 ∀ f _ _ _ _ _ _ _ _ _:Value,∀ g:World,e f g->
 CondV f (
 R (.returned (.bool false)) g) (
 RR (ao .add 3 false true c (.int .i64 1)) g fun e f=>
 a e f/\b e f<b c d))) (
 RR (aq .len #[9] 3 [false] [p0]) f fun a b=>
 RR (ao .geq 3 false true a (.int .i64 1)) b fun a b=>
 ag a true (
 RR (aq .len #[9] 3 [false] [p0]) b fun b c=>
 RR (ao .leq 3 false true b (.int .i64 6)) c fun b c=>
 RR (sOp (.pick (.const a) (.const b) (.const (.bool false))) 4) c fun a b=>
 R (.returned a) b) (
 RR (sOp (.pick (.const a) (.const undef) (.const (.bool false))) 4) b fun a b=>
 R (.returned a) b)))
theorem ue {p0:Value} {w:World} {R:Ending->World->Prop} (h:qW p0 w R):Calls Tryz.prog 162 #[p0] w R:=
  aN (.seq none .leaf (.seq none (.seq none .leaf (.one (.loop [3] (.seq none .leaf (.seq none (.one (.seq (some [19]) .leaf .leaf)) .leaf))))) .leaf)) [p0] bh Tryz.func162 (by kernel_rfl) (by kernel_rfl) h

end Go.Proofs.YtemmhhdnlbmicaaGreat
