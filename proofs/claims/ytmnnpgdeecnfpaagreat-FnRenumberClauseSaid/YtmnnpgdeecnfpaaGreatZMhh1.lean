/- Made by program: the functions in a shallow form; each form gives Calls. -/
import Derived.Test.YtmnnpgdeecnfpaaGreatZMhS
import Derived.Test.YtmnnpgdeecnfpaaGreatProg
import Derived.Test.YtmnnpgdeecnfpaaGreatZMhh0
import Derived.KernelRfl
set_option maxRecDepth 100000
namespace Go.Proofs.YtmnnpgdeecnfpaaGreat
open Go
/- loop.example/prologserver/spec.l1Name : function 189 -/
def rt (p0 p1:Value) (w:World) (R:Ending->World->Prop):Prop:=
 (∃ (a:Value->World->Prop) (b:Value->World->Nat),a p1 w/\
 ∀ c _ _ _ _ _:Value,∀ d:World,a c d->
 RR (ay (.func (.func 197) #[] #[]) [p0,c]) d fun e f=>
 CondV e (
 RR (au .add 3 false true c (.int .i64 1)) f fun e f=>
 a e f/\b e f<b c d) (
 RR (au .add 3 false true p1 (.int .i64 6)) f fun a b=>
 RR (au .gtr 3 false false c a) b fun a b=>
 CondV a (
 R (.returned (.tuple #[(.string ⟨#[]⟩),(.int .i64 (-1))])) b) (
 RR (au .gtr 3 false false c p1) b fun a b=>
 CondV a (
 RR (sOp (.slice 9 (.const p0) (some (.const p1)) (some (.const c)) none) 9) b fun a b=>
 R (.returned (.tuple #[a,c])) b) (
 RR (ay (.func (.func 194) #[] #[]) []) b fun a b=>
 (∃ (c:Value->Value->World->Prop) (d:Value->Value->World->Nat),c (.int .i64 0) (.string ⟨#[]⟩) b/\
 ∀ b _ _ e _ _ _ _ f g h i j k l m n o p q r s t u v x y z A B C D E _ _ _ _ _ _ _ _ _ _:Value,∀ F:World,c b e F->
 RR (aA .len #[82] 3 [false] [a]) F fun G H=>
 RR (au .lss 3 false false b G) H fun G H=>
 CondV G (
 (∃ G:Value->World->Prop,(
 RR (sOp (.indexAddr 82 (.const a) (.const b)) 0) H fun c d=>
 RR (sOp (.load 9 (.const c)) 9) d fun c d=>
 RR (aA .len #[9] 3 [false] [c]) d fun c d=>
 (∃ F:(Nat->Bool)->Value->Value->Value->Value->Value->Value->Value->Value->Value->Value->Value->Value->Value->Value->Value->Value->Value->Value->Value->Value->Value->Value->Value->Value->Value->World->Prop,F (fun _=>false) f g h i j k l m n o p q r s t u v x y z A B C D E { d with drawn:=d.drawn+1 }/\(
 (∀ a:Nat->Bool,a 0=false->∀ b c d e f g h i j k l m n o p q r s t u v x y z A B,F a b c d e f g h i j k l m n o p q r s t u v x y z A B->
 F (av a 0) b c d e f g h i j k l m n o p q r s t u v x y z p1 B)/\
 (∀ a:Nat->Bool,a 1=false->∀ b d e f g h i j k l m n o p q r s t u v x y z A B C,F a b d e f g h i j k l m n o p q r s t u v x y z A B C->
 F (av a 1) b d e f g h i j k l m n o p q r s t u v x y z c B C)/\
 (∀ a:Nat->Bool,a 2=false->a 0=true->a 1=true->∀ b c d e f g h i j k l m n o p q r s t u v x y z A B,F a b c d e f g h i j k l m n o p q r s t u v x y z A B->
 RR (au .add 3 false false A z) B fun y B=>
 F (av a 2) b c d e f g h i j k l m n o p q r s t u v x y z A B)/\
 (∀ a:Nat->Bool,a 3=false->∀ b c d e f g h i j k l m n o p q r s t u v x y z A B,F a b c d e f g h i j k l m n o p q r s t u v x y z A B->
 F (av a 3) b c d e f g h i j k l m n o p q r s t u v p0 y z A B)/\
 (∀ a:Nat->Bool,a 4=false->a 3=true->∀ b c d e f g h i j k l m n o p q r s t u v x y z A B,F a b c d e f g h i j k l m n o p q r s t u v x y z A B->
 RR (aA .len #[9] 3 [false] [x]) B fun v B=>
 F (av a 4) b c d e f g h i j k l m n o p q r s t u v x y z A B)/\
 (∀ a:Nat->Bool,a 5=false->a 2=true->a 4=true->∀ b c d e f g h i j k l m n o p q r s t u v x y z A B,F a b c d e f g h i j k l m n o p q r s t u v x y z A B->
 RR (au .leq 3 false false y v) B fun u B=>
 F (av a 5) b c d e f g h i j k l m n o p q r s t u v x y z A B)/\
 (∀ a:Nat->Bool,a 6=false->a 5=true->∀ b c d e f g h i j k l m n o p q r s t u v x y z A B,F a b c d e f g h i j k l m n o p q r s t u v x y z A B->
 F (av a 6) b c d e f g h i j k l m n o p q r s u u v x y z A B)/\
 (∀ a:Nat->Bool,a 7=false->a 6=true->∀ b c d e f g h i j k l m n o p q r s t u v x y z A B,F a b c d e f g h i j k l m n o p q r s t u v x y z A B->
 ah t true (F (av a 7) b c d e f g h i j k l m n o p q r p0 t u v x y z A B) (F (av a 7) b c d e f g h i j k l m n o p q r undef t u v x y z A B))/\
 (∀ a:Nat->Bool,a 8=false->a 6=true->∀ b c d e f g h i j k l m n o p q r s t u v x y z A B,F a b c d e f g h i j k l m n o p q r s t u v x y z A B->
 ah t true (F (av a 8) b c d e f g h i j k l m n o p q p1 s t u v x y z A B) (F (av a 8) b c d e f g h i j k l m n o p q undef s t u v x y z A B))/\
 (∀ a:Nat->Bool,a 9=false->a 6=true->∀ b c d e f g h i j k l m n o p q r s t u v x y z A B,F a b c d e f g h i j k l m n o p q r s t u v x y z A B->
 ah t true (F (av a 9) b c d e f g h i j k l m n o p p1 r s t u v x y z A B) (F (av a 9) b c d e f g h i j k l m n o p undef r s t u v x y z A B))/\
 (∀ a:Nat->Bool,a 10=false->a 6=true->∀ b d e f g h i j k l m n o p q r s t u v x y z A B C,F a b d e f g h i j k l m n o p q r s t u v x y z A B C->
 ah u true (F (av a 10) b d e f g h i j k l m n o p c r s t u v x y z A B C) (F (av a 10) b d e f g h i j k l m n o p undef r s t u v x y z A B C))/\
 (∀ a:Nat->Bool,a 11=false->a 9=true->a 10=true->a 6=true->∀ b c d e f g h i j k l m n o p q r s t u v x y z A B,F a b c d e f g h i j k l m n o p q r s t u v x y z A B->
 ah t true (RR (au .add 3 false false q p) B fun o B=>
 F (av a 11) b c d e f g h i j k l m n o p q r s t u v x y z A B) (F (av a 11) b c d e f g h i j k l m n undef p q r s t u v x y z A B))/\
 (∀ a:Nat->Bool,a 12=false->a 7=true->a 8=true->a 11=true->a 6=true->∀ b c d e f g h i j k l m n o p q r s t u v x y z A B,F a b c d e f g h i j k l m n o p q r s t u v x y z A B->
 ah t true (RR (sOp (.slice 9 (.const s) (some (.const r)) (some (.const o)) none) 9) B fun n B=>
 F (av a 12) b c d e f g h i j k l m n o p q r s t u v x y z A B) (F (av a 12) b c d e f g h i j k l m undef o p q r s t u v x y z A B))/\
 (∀ b:Nat->Bool,b 13=false->b 6=true->∀ c d e f g h i j k l m n o p q r s t u v x y z A B C,F b c d e f g h i j k l m n o p q r s t u v x y z A B C->
 ah u true (F (av b 13) c d e f g h i j k l m a o p q r s t u v x y z A B C) (F (av b 13) c d e f g h i j k l m undef o p q r s t u v x y z A B C))/\
 (∀ a:Nat->Bool,a 14=false->a 6=true->∀ c d e f g h i j k l m n o p q r s t u v x y z A B C,F a c d e f g h i j k l m n o p q r s t u v x y z A B C->
 ah u true (F (av a 14) c d e f g h i j k l b n o p q r s t u v x y z A B C) (F (av a 14) c d e f g h i j k l undef n o p q r s t u v x y z A B C))/\
 (∀ a:Nat->Bool,a 15=false->a 13=true->a 14=true->a 6=true->∀ b c d e f g h i j k l m n o p q r s t u v x y z A B,F a b c d e f g h i j k l m n o p q r s t u v x y z A B->
 ah t true (RR (sOp (.indexAddr 82 (.const m) (.const l)) 0) B fun k B=>
 F (av a 15) b c d e f g h i j k l m n o p q r s t u v x y z A B) (F (av a 15) b c d e f g h i j undef l m n o p q r s t u v x y z A B))/\
 (∀ a:Nat->Bool,a 16=false->a 15=true->a 6=true->∀ b c d e f g h i j k l m n o p q r s t u v x y z A B,F a b c d e f g h i j k l m n o p q r s t u v x y z A B->
 ah t true (RR (sOp (.load 9 (.const k)) 9) B fun j B=>
 F (av a 16) b c d e f g h i j k l m n o p q r s t u v x y z A B) (F (av a 16) b c d e f g h i undef k l m n o p q r s t u v x y z A B))/\
 (∀ a:Nat->Bool,a 17=false->a 12=true->a 16=true->a 6=true->∀ b c d e f g h i j k l m n o p q r s t u v x y z A B,F a b c d e f g h i j k l m n o p q r s t u v x y z A B->
 ah t true (RR (au .eql 9 false false n j) B fun i B=>
 F (av a 17) b c d e f g h i j k l m n o p q r s t u v x y z A B) (F (av a 17) b c d e f g h undef j k l m n o p q r s t u v x y z A B))/\
 (∀ a:Nat->Bool,a 18=false->a 6=true->a 17=true->∀ b c d e f g h i j k l m n o p q r s t u v x y z A B,F a b c d e f g h i j k l m n o p q r s t u v x y z A B->
 RR (sOp (.pick (.const t) (.const i) (.const (.bool false))) 4) B fun h B=>
 F (av a 18) b c d e f g h i j k l m n o p q r s t u v x y z A B)/\
 (∀ a:Nat->Bool,a 19=false->a 18=true->a 6=true->∀ b c d e f g h i j k l m n o p q r s t u v x y z A B,F a b c d e f g h i j k l m n o p q r s t u v x y z A B->
 F (av a 19) b c d e f h h i j k l m n o p q r s t u v x y z A B)/\
 (∀ a:Nat->Bool,a 20=false->a 19=true->∀ b d e f g h i j k l m n o p q r s t u v x y z A B C,F a b d e f g h i j k l m n o p q r s t u v x y z A B C->
 ah h true (F (av a 20) b d e f c h i j k l m n o p q r s t u v x y z A B C) (F (av a 20) b d e f undef h i j k l m n o p q r s t u v x y z A B C))/\
 (∀ a:Nat->Bool,a 21=false->a 19=true->∀ b c d f g h i j k l m n o p q r s t u v x y z A B C,F a b c d f g h i j k l m n o p q r s t u v x y z A B C->
 ah h true (F (av a 21) b c d e g h i j k l m n o p q r s t u v x y z A B C) (F (av a 21) b c d undef g h i j k l m n o p q r s t u v x y z A B C))/\
 (∀ a:Nat->Bool,a 22=false->a 21=true->a 19=true->∀ b c d e f g h i j k l m n o p q r s t u v x y z A B,F a b c d e f g h i j k l m n o p q r s t u v x y z A B->
 ah g true (RR (aA .len #[9] 3 [false] [e]) B fun d B=>
 F (av a 22) b c d e f g h i j k l m n o p q r s t u v x y z A B) (F (av a 22) b c undef e f g h i j k l m n o p q r s t u v x y z A B))/\
 (∀ a:Nat->Bool,a 23=false->a 20=true->a 22=true->a 19=true->∀ b c d e f g h i j k l m n o p q r s t u v x y z A B,F a b c d e f g h i j k l m n o p q r s t u v x y z A B->
 ah g true (RR (au .gtr 3 false false f d) B fun c B=>
 F (av a 23) b c d e f g h i j k l m n o p q r s t u v x y z A B) (F (av a 23) b undef d e f g h i j k l m n o p q r s t u v x y z A B))/\
 (∀ a:Nat->Bool,a 24=false->a 19=true->a 23=true->∀ b c d e f g h i j k l m n o p q r s t u v x y z A B,F a b c d e f g h i j k l m n o p q r s t u v x y z A B->
 RR (sOp (.pick (.const g) (.const c) (.const (.bool false))) 4) B fun b B=>
 F (av a 24) b c d e f g h i j k l m n o p q r s t u v x y z A B)/\
 True)/\
 ∀ c:Nat->Bool,c 24=true->c 23=true->c 22=true->c 21=true->c 20=true->c 19=true->c 18=true->c 17=true->c 16=true->c 15=true->c 14=true->c 13=true->c 12=true->c 11=true->c 10=true->c 9=true->c 8=true->c 7=true->c 6=true->c 5=true->c 4=true->c 3=true->c 2=true->c 1=true->c 0=true->∀ d f g h i j k l m n o p q r s t u v x y z A B C D E,F c d f g h i j k l m n o p q r s t u v x y z A B C D E->
 CondV d (
 RR (sOp (.indexAddr 82 (.const a) (.const b)) 0) E fun a b=>
 RR (sOp (.load 9 (.const a)) 9) b fun a b=>
 G a b) (
 G e E)))/\
 ∀ a _ _ _ _ _ _ _ _ _ _ _ _ _ _ _ _ _ _ _ _ _ _ _ _ _ _ _ _ _ _ _ _ _ _ _:Value,∀ f:World,G a f->
 RR (au .add 3 false true b (.int .i64 1)) f fun f g=>
 c f a g/\d f a g<d b e F)) (
 RR (au .eql 9 false true e (.string ⟨#[]⟩)) H fun a b=>
 CondV a (
 R (.returned (.tuple #[(.string ⟨#[]⟩),(.int .i64 (-1))])) b) (
 RR (aA .len #[9] 3 [false] [e]) b fun a b=>
 RR (au .add 3 false false p1 a) b fun a b=>
 R (.returned (.tuple #[e,a])) b)))))))
theorem uH {p0 p1:Value} {w:World} {R:Ending->World->Prop} (h:rt p0 p1 w R):Calls Tryz.prog 189 #[p0,p1] w R:=
  aL (.seq none .leaf (.seq none .leaf (.seq none (.one (.loop [6] .leaf)) (.seq none .leaf (.seq none .leaf (.seq none .leaf (.seq none .leaf (.seq none (.seq none .leaf (.one (.loop [9,7] (.seq none .leaf (.seq (some [7]) .leaf .leaf))))) .leaf)))))))) [p0,p1] bl Tryz.func189 (by kernel_rfl) (by kernel_rfl) h


/- loop.example/prologserver/spec.l2Terms : function 190 -/
def ox (p0 p1 p2 p3 p4:Value) (w:World) (R:Ending->World->Prop):Prop:=
 RR (aR 30 0 []) w fun a b=>
 (∃ (c:Value->Value->World->Prop) (d:Value->Value->World->Nat),c p1 a b/\
 ∀ a _ _ _ _ _ _ _ _ _ _ _ _ _ _ _ _ _ _ _ _ b _ _ _ _ _ _ _ _ _ _ _ _ _ _ _ _ _ _:Value,∀ e:World,c a b e->
 RR (ay (.func (.func 162) #[] #[]) [p0,a,p2,(.int .i64 3)]) e fun f g=>
 RR (sOp (.extract (.const f) 0) 32) g fun g h=>
 RR (sOp (.extract (.const f) 1) 3) h fun f h=>
 RR (sOp (.alloc 32) 0) h fun h i=>
 RR (sOp (.store 32 (.const h) (.const g)) 0) i fun _ g=>
 RR (au .lss 3 false true f (.int .i64 0)) g fun g i=>
 CondV g (
 R (.returned (.tuple #[(Value.slice none 0 0),f])) i) (
 RR (sOp (.load 32 (.const h)) 32) i fun g h=>
 RR (aR 30 1 [(0,g)]) h fun g h=>
 RR (aA .append #[30,30] 30 [false,false] [b,g]) h fun g h=>
 (∃ i:Value->World->Prop,(
 RR (ay (.func (.func 163) #[] #[]) [p0,f,p3]) h fun a b=>
 ah a false (
 RR (ay (.func (.func 163) #[] #[]) [p0,f,p4]) b fun b c=>
 RR (sOp (.pick (.const a) (.const (.bool true)) (.const b)) 4) c fun a b=>
 i a b) (
 RR (sOp (.pick (.const a) (.const (.bool true)) (.const undef)) 4) b fun a b=>
 i a b))/\
 ∀ h _ _ _ _ _ _ _ _ _:Value,∀ j:World,i h j->
 CondV h (
 R (.returned (.tuple #[g,f])) j) (
 RR (ay (.func (.func 163) #[] #[]) [p0,f,(.int .u8 44)]) j fun h i=>
 RR (sOp (.unOp .not 4 (.const h)) 4) i fun h i=>
 CondV h (
 RR (au .sub 3 true false (.int .i64 (-1)) f) i fun a b=>
 R (.returned (.tuple #[(Value.slice none 0 0),a])) b) (
 RR (au .add 3 false true f (.int .i64 1)) i fun f h=>
 c f g h/\d f g h<d a b e)))))
theorem rV {p0 p1 p2 p3 p4:Value} {w:World} {R:Ending->World->Prop} (h:ox p0 p1 p2 p3 p4 w R):Calls Tryz.prog 190 #[p0,p1,p2,p3,p4] w R:=
  aL (.seq none .leaf (.seq none .leaf (.one (.loop [1,12] (.one (.seq none .leaf (.seq none .leaf (.seq none .leaf (.seq none (.seq (some [39]) .leaf .leaf) .leaf))))))))) [p0,p1,p2,p3,p4] bl Tryz.func190 (by kernel_rfl) (by kernel_rfl) h


/- loop.example/prologserver/spec.l2Text : function 191 -/
def q9 (p0:Value) (w:World) (R:Ending->World->Prop):Prop:=
 RR (sOp (.box 32 (.const p0)) 0) w fun a b=>
 RR (sOp (.load 32 (.const a)) 32) b fun b c=>
 RR (ay (.func (.func 198) #[] #[]) [b]) c fun b c=>
 CondV b (
 RR (sOp (.load 32 (.const a)) 32) c fun a b=>
 RR (ay (.func (.func 199) #[] #[]) [a]) b fun a b=>
 R (.returned a) b) (
 RR (sOp (.load 32 (.const a)) 32) c fun b c=>
 RR (ay (.func (.func 200) #[] #[]) [b]) c fun b c=>
 CondV b (
 RR (sOp (.fieldAddr 32 (.const a) 2) 0) c fun b c=>
 RR (sOp (.load 9 (.const b)) 9) c fun b c=>
 RR (ay (.func (.func 156) #[] #[]) [b]) c fun b c=>
 (∃ d:Value->World->Prop,(
 RR (au .eql 3 false true b (.int .i64 3)) c fun a c=>
 CondV a (
 d (.int .i64 2) c) (
 d b c))/\
 ∀ c _ _:Value,∀ e:World,d c e->
 (∃ d:(Nat->Bool)->Value->Value->Value->Value->Value->Value->Value->Value->Value->Value->Value->Value->Value->Value->Value->Value->Value->Value->Value->World->Prop,d (fun _=>false) (.string ⟨#[]⟩) undef undef undef undef undef undef undef undef undef undef undef undef undef undef undef undef undef undef { e with drawn:=e.drawn+1 }/\(
 (∀ b:Nat->Bool,b 0=false->∀ c e f g h i j k l m n o p q r s t u v x,d b c e f g h i j k l m n o p q r s t u v x->
 RR (sOp (.fieldAddr 32 (.const a) 3) 0) x fun a v=>
 d (av b 0) c e f g h i j k l m n o p q r s t u a v)/\
 (∀ a:Nat->Bool,a 1=false->a 0=true->∀ b c e f g h i j k l m n o p q r s t u v,d a b c e f g h i j k l m n o p q r s t u v->
 RR (sOp (.load 30 (.const u)) 30) v fun t v=>
 d (av a 1) b c e f g h i j k l m n o p q r s t u v)/\
 (∀ a:Nat->Bool,a 2=false->a 1=true->∀ b c e f g h i j k l m n o p q r s t u v,d a b c e f g h i j k l m n o p q r s t u v->
 RR (sOp (.indexAddr 30 (.const t) (.const (.int .i64 0))) 0) v fun s v=>
 d (av a 2) b c e f g h i j k l m n o p q r s t u v)/\
 (∀ a:Nat->Bool,a 3=false->a 2=true->∀ b c e f g h i j k l m n o p q r s t u v,d a b c e f g h i j k l m n o p q r s t u v->
 RR (sOp (.load 32 (.const s)) 32) v fun r v=>
 d (av a 3) b c e f g h i j k l m n o p q r s t u v)/\
 (∀ a:Nat->Bool,a 4=false->∀ b e f g h i j k l m n o p q r s t u v x,d a b e f g h i j k l m n o p q r s t u v x->
 d (av a 4) b e f g h i j k l m n o p q c s t u v x)/\
 (∀ a:Nat->Bool,a 5=false->a 3=true->a 4=true->∀ b c e f g h i j k l m n o p q r s t u v,d a b c e f g h i j k l m n o p q r s t u v->
 RR (ay (.func (.func 201) #[] #[]) [r,q]) v fun p v=>
 d (av a 5) b c e f g h i j k l m n o p q r s t u v)/\
 (∀ b:Nat->Bool,b 6=false->∀ c e f g h i j k l m n o p q r s t u v x,d b c e f g h i j k l m n o p q r s t u v x->
 RR (sOp (.fieldAddr 32 (.const a) 2) 0) x fun a p=>
 d (av b 6) c e f g h i j k l m n o a q r s t u v p)/\
 (∀ a:Nat->Bool,a 7=false->a 6=true->∀ b c e f g h i j k l m n o p q r s t u v,d a b c e f g h i j k l m n o p q r s t u v->
 RR (sOp (.load 9 (.const o)) 9) v fun n v=>
 d (av a 7) b c e f g h i j k l m n o p q r s t u v)/\
 (∀ a:Nat->Bool,a 8=false->a 7=true->a 5=true->∀ b c e f g h i j k l m n o p q r s t u v,d a b c e f g h i j k l m n o p q r s t u v->
 RR (ay (.func (.func 202) #[] #[]) [n]) v fun m v=>
 d (av a 8) b c e f g h i j k l m n o p q r s t u v)/\
 (∀ a:Nat->Bool,a 9=false->a 5=true->a 8=true->∀ b c e f g h i j k l m n o p q r s t u v,d a b c e f g h i j k l m n o p q r s t u v->
 RR (au .add 9 false false p m) v fun l v=>
 d (av a 9) b c e f g h i j k l m n o p q r s t u v)/\
 (∀ b:Nat->Bool,b 10=false->∀ c e f g h i j k l m n o p q r s t u v x,d b c e f g h i j k l m n o p q r s t u v x->
 RR (sOp (.fieldAddr 32 (.const a) 3) 0) x fun a l=>
 d (av b 10) c e f g h i j k a m n o p q r s t u v l)/\
 (∀ a:Nat->Bool,a 11=false->a 10=true->∀ b c e f g h i j k l m n o p q r s t u v,d a b c e f g h i j k l m n o p q r s t u v->
 RR (sOp (.load 30 (.const k)) 30) v fun j v=>
 d (av a 11) b c e f g h i j k l m n o p q r s t u v)/\
 (∀ a:Nat->Bool,a 12=false->a 11=true->∀ b c e f g h i j k l m n o p q r s t u v,d a b c e f g h i j k l m n o p q r s t u v->
 RR (sOp (.indexAddr 30 (.const j) (.const (.int .i64 1))) 0) v fun i v=>
 d (av a 12) b c e f g h i j k l m n o p q r s t u v)/\
 (∀ a:Nat->Bool,a 13=false->a 12=true->∀ b c e f g h i j k l m n o p q r s t u v,d a b c e f g h i j k l m n o p q r s t u v->
 RR (sOp (.load 32 (.const i)) 32) v fun h v=>
 d (av a 13) b c e f g h i j k l m n o p q r s t u v)/\
 (∀ a:Nat->Bool,a 14=false->∀ c e f g h i j k l m n o p q r s t u v x,d a c e f g h i j k l m n o p q r s t u v x->
 d (av a 14) c e f g b i j k l m n o p q r s t u v x)/\
 (∀ a:Nat->Bool,a 15=false->a 14=true->∀ b c e f g h i j k l m n o p q r s t u v,d a b c e f g h i j k l m n o p q r s t u v->
 RR (au .sub 3 false true g (.int .i64 1)) v fun f v=>
 d (av a 15) b c e f g h i j k l m n o p q r s t u v)/\
 (∀ a:Nat->Bool,a 16=false->a 13=true->a 15=true->a 8=true->∀ b c e f g h i j k l m n o p q r s t u v,d a b c e f g h i j k l m n o p q r s t u v->
 RR (ay (.func (.func 203) #[] #[]) [h,f]) v fun e v=>
 d (av a 16) b c e f g h i j k l m n o p q r s t u v)/\
 (∀ a:Nat->Bool,a 17=false->a 9=true->a 16=true->∀ b c e f g h i j k l m n o p q r s t u v,d a b c e f g h i j k l m n o p q r s t u v->
 RR (au .add 9 false false l e) v fun c v=>
 d (av a 17) b c e f g h i j k l m n o p q r s t u v)/\
 (∀ a:Nat->Bool,a 18=false->a 17=true->a 16=true->a 0=true->a 1=true->a 2=true->a 3=true->a 4=true->a 5=true->a 6=true->a 7=true->a 8=true->a 9=true->a 10=true->a 11=true->a 12=true->a 13=true->a 14=true->a 15=true->a 16=true->a 17=true->∀ b c e f g h i j k l m n o p q r s t u v,d a b c e f g h i j k l m n o p q r s t u v->
 d (av a 18) c c e f g h i j k l m n o p q r s t u v)/\
 True)/\
 ∀ a:Nat->Bool,a 18=true->a 17=true->a 16=true->a 15=true->a 14=true->a 13=true->a 12=true->a 11=true->a 10=true->a 9=true->a 8=true->a 7=true->a 6=true->a 5=true->a 4=true->a 3=true->a 2=true->a 1=true->a 0=true->∀ b c e f g h i j k l m n o p q r s t u v,d a b c e f g h i j k l m n o p q r s t u v->
 R (.returned b) v))) (
 (∃ b:Value->World->Prop,(
 RR (sOp (.fieldAddr 32 (.const a) 0) 0) c fun c d=>
 RR (sOp (.load 3 (.const c)) 3) d fun c d=>
 RR (au .eql 3 false true c (.int .i64 3)) d fun c d=>
 ah c true (
 RR (sOp (.fieldAddr 32 (.const a) 3) 0) d fun a d=>
 RR (sOp (.load 30 (.const a)) 30) d fun a d=>
 RR (aA .len #[30] 3 [false] [a]) d fun a d=>
 RR (au .gtr 3 false true a (.int .i64 0)) d fun a d=>
 RR (sOp (.pick (.const c) (.const a) (.const (.bool false))) 4) d fun a c=>
 b a c) (
 RR (sOp (.pick (.const c) (.const undef) (.const (.bool false))) 4) d fun a c=>
 b a c))/\
 ∀ c _ _ _ _ _ _ _ _ _:Value,∀ d:World,b c d->
 CondV c (
 (∃ b:(Nat->Bool)->Value->Value->Value->Value->Value->Value->Value->Value->Value->World->Prop,b (fun _=>false) (.string ⟨#[]⟩) undef undef undef undef undef undef undef undef { d with drawn:=d.drawn+1 }/\(
 (∀ c:Nat->Bool,c 0=false->∀ d e f g h i j k l m,b c d e f g h i j k l m->
 RR (sOp (.fieldAddr 32 (.const a) 2) 0) m fun a l=>
 b (av c 0) d e f g h i j k a l)/\
 (∀ a:Nat->Bool,a 1=false->a 0=true->∀ c d e f g h i j k l,b a c d e f g h i j k l->
 RR (sOp (.load 9 (.const k)) 9) l fun j l=>
 b (av a 1) c d e f g h i j k l)/\
 (∀ a:Nat->Bool,a 2=false->a 1=true->∀ c d e f g h i j k l,b a c d e f g h i j k l->
 RR (au .add 9 false true j (.string ⟨#[40]⟩)) l fun i l=>
 b (av a 2) c d e f g h i j k l)/\
 (∀ c:Nat->Bool,c 3=false->∀ d e f g h i j k l m,b c d e f g h i j k l m->
 RR (sOp (.fieldAddr 32 (.const a) 3) 0) m fun a i=>
 b (av c 3) d e f g h a j k l i)/\
 (∀ a:Nat->Bool,a 4=false->a 3=true->∀ c d e f g h i j k l,b a c d e f g h i j k l->
 RR (sOp (.load 30 (.const h)) 30) l fun g l=>
 b (av a 4) c d e f g h i j k l)/\
 (∀ a:Nat->Bool,a 5=false->a 4=true->∀ c d e f g h i j k l,b a c d e f g h i j k l->
 RR (ay (.func (.func 204) #[] #[]) [g]) l fun f l=>
 b (av a 5) c d e f g h i j k l)/\
 (∀ a:Nat->Bool,a 6=false->a 2=true->a 5=true->∀ c d e f g h i j k l,b a c d e f g h i j k l->
 RR (au .add 9 false false i f) l fun e l=>
 b (av a 6) c d e f g h i j k l)/\
 (∀ a:Nat->Bool,a 7=false->a 6=true->∀ c d e f g h i j k l,b a c d e f g h i j k l->
 RR (au .add 9 false true e (.string ⟨#[41]⟩)) l fun d l=>
 b (av a 7) c d e f g h i j k l)/\
 (∀ a:Nat->Bool,a 8=false->a 7=true->a 5=true->a 0=true->a 1=true->a 2=true->a 3=true->a 4=true->a 5=true->a 6=true->a 7=true->∀ c d e f g h i j k l,b a c d e f g h i j k l->
 b (av a 8) d d e f g h i j k l)/\
 True)/\
 ∀ a:Nat->Bool,a 8=true->a 7=true->a 6=true->a 5=true->a 4=true->a 3=true->a 2=true->a 1=true->a 0=true->∀ c d e f g h i j k l,b a c d e f g h i j k l->
 R (.returned c) l)) (
 RR (sOp (.load 32 (.const a)) 32) d fun a b=>
 RR (ay (.func (.func 205) #[] #[]) [a]) b fun a b=>
 R (.returned a) b))))
theorem uL {p0:Value} {w:World} {R:Ending->World->Prop} (h:q9 p0 w R):Calls Tryz.prog 191 #[p0] w R:=
  aL (.seq none .leaf (.seq none (.one (.seq none .leaf (.two .leaf (.seq none .leaf (.two (.seq none .leaf (.seq none .leaf (.seq (some [4]) .leaf .leaf))) (.seq (some [37]) .leaf .leaf)))))) .leaf)) [p0] bl Tryz.func191 (by kernel_rfl) (by kernel_rfl) h


/- loop.example/prologserver/spec.l1Has : function 193 -/
def uK (p0 p1:Value) (w:World) (R:Ending->World->Prop):Prop:=
 (∃ (a:Value->World->Prop) (b:Value->World->Nat),a (.int .i64 0) w/\
 ∀ c _ _ _ _ _ _ _ _ _ _ _ _ _:Value,∀ d:World,a c d->
 RR (aA .len #[82] 3 [false] [p0]) d fun e f=>
 RR (au .lss 3 false false c e) f fun e f=>
 CondV e (
 RR (sOp (.indexAddr 82 (.const p0) (.const c)) 0) f fun e f=>
 RR (sOp (.load 9 (.const e)) 9) f fun e f=>
 RR (au .eql 9 false false e p1) f fun e f=>
 CondV e (
 R (.returned (.bool true)) f) (
 RR (au .add 3 false true c (.int .i64 1)) f fun e f=>
 a e f/\b e f<b c d)) (
 R (.returned (.bool false)) f))
theorem vM {p0 p1:Value} {w:World} {R:Ending->World->Prop} (h:uK p0 p1 w R):Calls Tryz.prog 193 #[p0,p1] w R:=
  aL (.seq none .leaf (.seq none (.seq none .leaf (.one (.loop [5] .leaf))) .leaf)) [p0,p1] bl Tryz.func193 (by kernel_rfl) (by kernel_rfl) h


/- loop.example/prologserver/spec.l1Signs : function 194 -/
def pb (w:World) (R:Ending->World->Prop):Prop:=
 RR (aR 82 15 [(0,(.string ⟨#[43]⟩)),(1,(.string ⟨#[45]⟩)),(2,(.string ⟨#[42]⟩)),(3,(.string ⟨#[47,47]⟩)),(4,(.string ⟨#[61]⟩)),(5,(.string ⟨#[92,61]⟩)),(6,(.string ⟨#[61,61]⟩)),(7,(.string ⟨#[60]⟩)),(8,(.string ⟨#[62]⟩)),(9,(.string ⟨#[61,60]⟩)),(10,(.string ⟨#[62,61]⟩)),(11,(.string ⟨#[61,58,61]⟩)),(12,(.string ⟨#[46]⟩)),(13,(.string ⟨#[91,93]⟩)),(14,(.string ⟨#[33]⟩))]) w fun a b=>
 R (.returned a) b
theorem r8 {w:World} {R:Ending->World->Prop} (h:pb w R):Calls Tryz.prog 194 #[] w R:=
  aL .leaf [] bl Tryz.func194 (by kernel_rfl) (by kernel_rfl) h


/- loop.example/prologserver/spec.l1Chain : function 195 -/
def pC (p0 p1:Value) (w:World) (R:Ending->World->Prop):Prop:=
 RR (sOp (.box 32 (.const p1)) 0) w fun a b=>
 RR (sOp (.alloc 32) 0) b fun b c=>
 RR (sOp (.load 32 (.const a)) 32) c fun a c=>
 RR (sOp (.alloc 32) 0) c fun c d=>
 RR (sOp (.store 32 (.const c) (.const a)) 0) d fun _ a=>
 RR (aA .len #[30] 3 [false] [p0]) a fun a d=>
 RR (au .sub 3 false true a (.int .i64 1)) d fun a d=>
 (∃ (e:Value->World->Prop) (f:Value->World->Nat),e a d/\
 ∀ a _ _ d g h i j k l _ _:Value,∀ m:World,e a m->
 RR (au .geq 3 false true a (.int .i64 0)) m fun n o=>
 CondV n (
 (∃ b:(Nat->Bool)->Value->Value->Value->Value->Value->Value->Value->World->Prop,b (fun _=>false) d g h i j k l { o with drawn:=o.drawn+1 }/\(
 (∀ a:Nat->Bool,a 0=false->∀ c d e f g h i j,b a c d e f g h i j->
 b (av a 0) c d e f g h p0 j)/\
 (∀ c:Nat->Bool,c 1=false->∀ d e f g h i j k,b c d e f g h i j k->
 b (av c 1) d e f g h a j k)/\
 (∀ a:Nat->Bool,a 2=false->a 0=true->a 1=true->∀ c d e f g h i j,b a c d e f g h i j->
 RR (sOp (.indexAddr 30 (.const i) (.const h)) 0) j fun g j=>
 b (av a 2) c d e f g h i j)/\
 (∀ a:Nat->Bool,a 3=false->a 2=true->∀ c d e f g h i j,b a c d e f g h i j->
 RR (sOp (.load 32 (.const g)) 32) j fun f j=>
 b (av a 3) c d e f g h i j)/\
 (∀ a:Nat->Bool,a 4=false->∀ d e f g h i j k,b a d e f g h i j k->
 RR (sOp (.load 32 (.const c)) 32) k fun c f=>
 b (av a 4) d e c g h i j f)/\
 (∀ a:Nat->Bool,a 5=false->a 3=true->a 4=true->∀ c d e f g h i j,b a c d e f g h i j->
 RR (aR 30 2 [(0,f),(1,e)]) j fun d j=>
 b (av a 5) c d e f g h i j)/\
 (∀ a:Nat->Bool,a 6=false->a 5=true->∀ c d e f g h i j,b a c d e f g h i j->
 RR (ay (.func (.func 106) #[] #[]) [(.string ⟨#[46]⟩),d]) j fun c j=>
 b (av a 6) c d e f g h i j)/\
 (∀ a:Nat->Bool,a 7=false->a 6=true->a 6=true->a 0=true->a 1=true->a 2=true->a 3=true->a 4=true->a 5=true->a 6=true->∀ d e f g h i j k,b a d e f g h i j k->
 RR (sOp (.store 32 (.const c) (.const d)) 0) k fun _ c=>
 b (av a 7) d e f g h i j c)/\
 True)/\
 ∀ c:Nat->Bool,c 7=true->c 6=true->c 5=true->c 4=true->c 3=true->c 2=true->c 1=true->c 0=true->∀ d g h i j k l n,b c d g h i j k l n->
 RR (au .sub 3 false true a (.int .i64 1)) n fun b c=>
 e b c/\f b c<f a m)) (
 RR (sOp (.load 32 (.const c)) 32) o fun a c=>
 RR (sOp (.store 32 (.const b) (.const a)) 0) c fun _ a=>
 (ba Tryz.prog 32 b a fun b=>R (.returned b) a)))
theorem ss {p0 p1:Value} {w:World} {R:Ending->World->Prop} (h:pC p0 p1 w R):Calls Tryz.prog 195 #[p0,p1] w R:=
  aL (.seq none .leaf (.seq none .leaf (.seq none (.seq none .leaf (.one (.loop [6] .leaf))) .leaf))) [p0,p1] bl Tryz.func195 (by kernel_rfl) (by kernel_rfl) h


/- loop.example/prologserver/spec.l18Num : function 196 -/
def qK (p0:Value) (w:World) (R:Ending->World->Prop):Prop:=
 (∃ a:Value->World->Prop,(
 RR (aA .len #[9] 3 [false] [p0]) w fun b c=>
 RR (au .gtr 3 false true b (.int .i64 0)) c fun b c=>
 ah b true (
 RR (sOp (.index 9 (.const p0) (.const (.int .i64 0))) 5) c fun c d=>
 RR (au .eql 5 false true c (.int .u8 45)) d fun c d=>
 RR (sOp (.pick (.const b) (.const c) (.const (.bool false))) 4) d fun b c=>
 a b c) (
 RR (sOp (.pick (.const b) (.const undef) (.const (.bool false))) 4) c fun b c=>
 a b c))/\
 ∀ b _ _ _ _ _ _ _ _:Value,∀ c:World,a b c->
 (∃ a:Value->World->Prop,(
 CondV b (
 RR (sOp (.slice 9 (.const p0) (some (.const (.int .i64 1))) none none) 9) c fun b c=>
 a b c) (
 a p0 c))/\
 ∀ c _ _ _:Value,∀ d:World,a c d->
 (∃ a:Value->World->Prop,(
 RR (aA .len #[9] 3 [false] [c]) d fun d e=>
 RR (au .eql 3 false true d (.int .i64 0)) e fun d e=>
 ((fun a:VW=>ah d false (
 RR (aA .len #[9] 3 [false] [c]) e fun b c=>
 RR (au .gtr 3 false true b (.int .i64 17)) c fun b c=>
 RR (sOp (.pick (.const d) (.const (.bool true)) (.const b)) 4) c fun b c=>a b c) (
 RR (sOp (.pick (.const d) (.const (.bool true)) (.const undef)) 4) e fun b c=>a b c)) fun d e=>
 ah d false (
 RR (sOp (.index 9 (.const c) (.const (.int .i64 0))) 5) e fun e f=>
 RR (au .eql 5 false true e (.int .u8 48)) f fun e f=>
 ah e true (
 RR (aA .len #[9] 3 [false] [c]) f fun c f=>
 RR (au .gtr 3 false true c (.int .i64 1)) f fun c f=>
 ah c false (
 ah e true (
 RR (sOp (.pick (.const c) (.const (.bool true)) (.const b)) 4) f fun b c=>
 ah d false (
 RR (sOp (.pick (.const e) (.const b) (.const (.bool false))) 4) c fun b c=>
 RR (sOp (.pick (.const d) (.const (.bool true)) (.const b)) 4) c fun b c=>
 a b c) (
 RR (sOp (.pick (.const d) (.const (.bool true)) (.const undef)) 4) c fun b c=>
 a b c)) (
 ah d false (
 RR (sOp (.pick (.const e) (.const undef) (.const (.bool false))) 4) f fun b c=>
 RR (sOp (.pick (.const d) (.const (.bool true)) (.const b)) 4) c fun b c=>
 a b c) (
 RR (sOp (.pick (.const d) (.const (.bool true)) (.const undef)) 4) f fun b c=>
 a b c))) (
 ah e true (
 RR (sOp (.pick (.const c) (.const (.bool true)) (.const undef)) 4) f fun b c=>
 ah d false (
 RR (sOp (.pick (.const e) (.const b) (.const (.bool false))) 4) c fun b c=>
 RR (sOp (.pick (.const d) (.const (.bool true)) (.const b)) 4) c fun b c=>
 a b c) (
 RR (sOp (.pick (.const d) (.const (.bool true)) (.const undef)) 4) c fun b c=>
 a b c)) (
 ah d false (
 RR (sOp (.pick (.const e) (.const undef) (.const (.bool false))) 4) f fun b c=>
 RR (sOp (.pick (.const d) (.const (.bool true)) (.const b)) 4) c fun b c=>
 a b c) (
 RR (sOp (.pick (.const d) (.const (.bool true)) (.const undef)) 4) f fun b c=>
 a b c)))) (
 ah undef false (
 ah e true (
 RR (sOp (.pick (.const undef) (.const (.bool true)) (.const b)) 4) f fun b c=>
 ah d false (
 RR (sOp (.pick (.const e) (.const b) (.const (.bool false))) 4) c fun b c=>
 RR (sOp (.pick (.const d) (.const (.bool true)) (.const b)) 4) c fun b c=>
 a b c) (
 RR (sOp (.pick (.const d) (.const (.bool true)) (.const undef)) 4) c fun b c=>
 a b c)) (
 ah d false (
 RR (sOp (.pick (.const e) (.const undef) (.const (.bool false))) 4) f fun b c=>
 RR (sOp (.pick (.const d) (.const (.bool true)) (.const b)) 4) c fun b c=>
 a b c) (
 RR (sOp (.pick (.const d) (.const (.bool true)) (.const undef)) 4) f fun b c=>
 a b c))) (
 ah e true (
 RR (sOp (.pick (.const undef) (.const (.bool true)) (.const undef)) 4) f fun b c=>
 ah d false (
 RR (sOp (.pick (.const e) (.const b) (.const (.bool false))) 4) c fun b c=>
 RR (sOp (.pick (.const d) (.const (.bool true)) (.const b)) 4) c fun b c=>
 a b c) (
 RR (sOp (.pick (.const d) (.const (.bool true)) (.const undef)) 4) c fun b c=>
 a b c)) (
 ah d false (
 RR (sOp (.pick (.const e) (.const undef) (.const (.bool false))) 4) f fun b c=>
 RR (sOp (.pick (.const d) (.const (.bool true)) (.const b)) 4) c fun b c=>
 a b c) (
 RR (sOp (.pick (.const d) (.const (.bool true)) (.const undef)) 4) f fun b c=>
 a b c))))) (
 ah undef true (
 RR (aA .len #[9] 3 [false] [c]) e fun c e=>
 RR (au .gtr 3 false true c (.int .i64 1)) e fun c e=>
 ah c false (
 ah undef true (
 RR (sOp (.pick (.const c) (.const (.bool true)) (.const b)) 4) e fun b c=>
 ah d false (
 RR (sOp (.pick (.const undef) (.const b) (.const (.bool false))) 4) c fun b c=>
 RR (sOp (.pick (.const d) (.const (.bool true)) (.const b)) 4) c fun b c=>
 a b c) (
 RR (sOp (.pick (.const d) (.const (.bool true)) (.const undef)) 4) c fun b c=>
 a b c)) (
 ah d false (
 RR (sOp (.pick (.const undef) (.const undef) (.const (.bool false))) 4) e fun b c=>
 RR (sOp (.pick (.const d) (.const (.bool true)) (.const b)) 4) c fun b c=>
 a b c) (
 RR (sOp (.pick (.const d) (.const (.bool true)) (.const undef)) 4) e fun b c=>
 a b c))) (
 ah undef true (
 RR (sOp (.pick (.const c) (.const (.bool true)) (.const undef)) 4) e fun b c=>
 ah d false (
 RR (sOp (.pick (.const undef) (.const b) (.const (.bool false))) 4) c fun b c=>
 RR (sOp (.pick (.const d) (.const (.bool true)) (.const b)) 4) c fun b c=>
 a b c) (
 RR (sOp (.pick (.const d) (.const (.bool true)) (.const undef)) 4) c fun b c=>
 a b c)) (
 ah d false (
 RR (sOp (.pick (.const undef) (.const undef) (.const (.bool false))) 4) e fun b c=>
 RR (sOp (.pick (.const d) (.const (.bool true)) (.const b)) 4) c fun b c=>
 a b c) (
 RR (sOp (.pick (.const d) (.const (.bool true)) (.const undef)) 4) e fun b c=>
 a b c)))) (
 ah undef false (
 ah undef true (
 RR (sOp (.pick (.const undef) (.const (.bool true)) (.const b)) 4) e fun b c=>
 ah d false (
 RR (sOp (.pick (.const undef) (.const b) (.const (.bool false))) 4) c fun b c=>
 RR (sOp (.pick (.const d) (.const (.bool true)) (.const b)) 4) c fun b c=>
 a b c) (
 RR (sOp (.pick (.const d) (.const (.bool true)) (.const undef)) 4) c fun b c=>
 a b c)) (
 ah d false (
 RR (sOp (.pick (.const undef) (.const undef) (.const (.bool false))) 4) e fun b c=>
 RR (sOp (.pick (.const d) (.const (.bool true)) (.const b)) 4) c fun b c=>
 a b c) (
 RR (sOp (.pick (.const d) (.const (.bool true)) (.const undef)) 4) e fun b c=>
 a b c))) (
 ah undef true (
 RR (sOp (.pick (.const undef) (.const (.bool true)) (.const undef)) 4) e fun b c=>
 ah d false (
 RR (sOp (.pick (.const undef) (.const b) (.const (.bool false))) 4) c fun b c=>
 RR (sOp (.pick (.const d) (.const (.bool true)) (.const b)) 4) c fun b c=>
 a b c) (
 RR (sOp (.pick (.const d) (.const (.bool true)) (.const undef)) 4) c fun b c=>
 a b c)) (
 ah d false (
 RR (sOp (.pick (.const undef) (.const undef) (.const (.bool false))) 4) e fun b c=>
 RR (sOp (.pick (.const d) (.const (.bool true)) (.const b)) 4) c fun b c=>
 a b c) (
 RR (sOp (.pick (.const d) (.const (.bool true)) (.const undef)) 4) e fun b c=>
 a b c)))))))/\
 ∀ d _ _ _ _ _ _ _ _ _ _ _ _ _ _ _ _ _ _ _ _:Value,∀ e:World,a d e->
 CondV d (
 R (.returned (.tuple #[(.int .i64 0),(.bool false)])) e) (
 (∃ (a:Value->Value->World->Prop) (d:Value->Value->World->Nat),a (.int .i64 0) (.int .i64 0) e/\
 ∀ e _ _ f _ _ _ _ _ _ _ _ _ _ _ _ _ _ _ _ _ _ _ _ _ _ _ _:Value,∀ g:World,a e f g->
 RR (aA .len #[9] 3 [false] [c]) g fun h i=>
 RR (au .lss 3 false false e h) i fun h i=>
 CondV h (
 (∃ b:Value->World->Prop,(
 RR (sOp (.index 9 (.const c) (.const e)) 5) i fun a d=>
 RR (au .lss 5 false true a (.int .u8 48)) d fun a d=>
 ah a false (
 RR (sOp (.index 9 (.const c) (.const e)) 5) d fun c d=>
 RR (au .gtr 5 false true c (.int .u8 57)) d fun c d=>
 RR (sOp (.pick (.const a) (.const (.bool true)) (.const c)) 4) d fun a c=>
 b a c) (
 RR (sOp (.pick (.const a) (.const (.bool true)) (.const undef)) 4) d fun a c=>
 b a c))/\
 ∀ h _ _ _ _ _ _ _ _ _:Value,∀ i:World,b h i->
 CondV h (
 R (.returned (.tuple #[(.int .i64 0),(.bool false)])) i) (
 RR (au .mul 3 false true f (.int .i64 10)) i fun b h=>
 RR (sOp (.index 9 (.const c) (.const e)) 5) h fun c h=>
 RR (au .sub 5 false true c (.int .u8 48)) h fun c h=>
 RR (sOp (.convert 5 3 (.const c)) 3) h fun c h=>
 RR (au .add 3 false false b c) h fun b c=>
 RR (au .add 3 false true e (.int .i64 1)) c fun c h=>
 a c b h/\d c b h<d e f g))) (
 (∃ a:Value->World->Prop,(
 CondV b (
 RR (sOp (.unOp .neg 3 (.const f)) 3) i fun b c=>
 a b c) (
 a f i))/\
 ∀ b _ _ _:Value,∀ c:World,a b c->
 R (.returned (.tuple #[b,(.bool true)])) c)))))))
theorem sM {p0:Value} {w:World} {R:Ending->World->Prop} (h:qK p0 w R):Calls Tryz.prog 196 #[p0] w R:=
  aL (.seq none .leaf (.seq (some [4]) .leaf (.seq (some [0]) .leaf (.seq none (.seq (some [38]) .leaf .leaf) (.seq none .leaf (.seq none (.seq none .leaf (.one (.loop [6,5] (.seq none .leaf (.seq none (.one (.seq none (.seq (some [54]) .leaf .leaf) .leaf)) .leaf))))) (.seq (some [5]) .leaf .leaf))))))) [p0] bl Tryz.func196 (by kernel_rfl) (by kernel_rfl) h


/- loop.example/prologserver/spec.l1Small : function 197 -/
def og (p0 p1:Value) (w:World) (R:Ending->World->Prop):Prop:=
 RR (au .geq 3 false true p1 (.int .i64 0)) w fun a b=>
 ((fun c:VW=>ah a true (
 RR (aA .len #[9] 3 [false] [p0]) b fun b d=>
 RR (au .lss 3 false false p1 b) d fun b d=>
 RR (sOp (.pick (.const a) (.const b) (.const (.bool false))) 4) d fun a b=>c a b) (
 RR (sOp (.pick (.const a) (.const undef) (.const (.bool false))) 4) b fun a b=>c a b)) fun a b=>
 ((fun c:VW=>ah a true (
 RR (sOp (.index 9 (.const p0) (.const p1)) 5) b fun b d=>
 RR (au .geq 5 false true b (.int .u8 97)) d fun b d=>
 RR (sOp (.pick (.const a) (.const b) (.const (.bool false))) 4) d fun a b=>c a b) (
 RR (sOp (.pick (.const a) (.const undef) (.const (.bool false))) 4) b fun a b=>c a b)) fun a b=>
 ah a true (
 RR (sOp (.index 9 (.const p0) (.const p1)) 5) b fun b c=>
 RR (au .leq 5 false true b (.int .u8 122)) c fun b c=>
 RR (sOp (.pick (.const a) (.const b) (.const (.bool false))) 4) c fun a b=>
 R (.returned a) b) (
 RR (sOp (.pick (.const a) (.const undef) (.const (.bool false))) 4) b fun a b=>
 R (.returned a) b)))
theorem sy {p0 p1:Value} {w:World} {R:Ending->World->Prop} (h:og p0 p1 w R):Calls Tryz.prog 197 #[p0,p1] w R:=
  aL .leaf [p0,p1] bl Tryz.func197 (by kernel_rfl) (by kernel_rfl) h


/- loop.example/prologserver/spec.l1Pair : function 198 -/
def qH (p0:Value) (w:World) (R:Ending->World->Prop):Prop:=
 RR (sOp (.box 32 (.const p0)) 0) w fun a b=>
 RR (sOp (.fieldAddr 32 (.const a) 0) 0) b fun b c=>
 RR (sOp (.load 3 (.const b)) 3) c fun b c=>
 RR (au .eql 3 false true b (.int .i64 3)) c fun b c=>
 ((fun d:VW=>ah b true (
 RR (sOp (.fieldAddr 32 (.const a) 2) 0) c fun a c=>
 RR (sOp (.load 9 (.const a)) 9) c fun a c=>
 RR (au .eql 9 false true a (.string ⟨#[46]⟩)) c fun a c=>
 RR (sOp (.pick (.const b) (.const a) (.const (.bool false))) 4) c fun a b=>d a b) (
 RR (sOp (.pick (.const b) (.const undef) (.const (.bool false))) 4) c fun a b=>d a b)) fun b c=>
 ah b true (
 RR (sOp (.fieldAddr 32 (.const a) 3) 0) c fun a c=>
 RR (sOp (.load 30 (.const a)) 30) c fun a c=>
 RR (aA .len #[30] 3 [false] [a]) c fun a c=>
 RR (au .eql 3 false true a (.int .i64 2)) c fun a c=>
 RR (sOp (.pick (.const b) (.const a) (.const (.bool false))) 4) c fun a b=>
 R (.returned a) b) (
 RR (sOp (.pick (.const b) (.const undef) (.const (.bool false))) 4) c fun a b=>
 R (.returned a) b))
theorem uy {p0:Value} {w:World} {R:Ending->World->Prop} (h:qH p0 w R):Calls Tryz.prog 198 #[p0] w R:=
  aL .leaf [p0] bl Tryz.func198 (by kernel_rfl) (by kernel_rfl) h


/- loop.example/prologserver/spec.l2List : function 199 -/
def qF (p0:Value) (w:World) (R:Ending->World->Prop):Prop:=
 RR (sOp (.box 32 (.const p0)) 0) w fun a b=>
 RR (aR 30 0 []) b fun b c=>
 (∃ (d:Value->World->Prop) (e:Value->World->Nat),d b c/\
 ∀ _ _ _ _ b _ _ _ _ _ _ _ _ _:Value,∀ c:World,d b c->
 RR (sOp (.load 32 (.const a)) 32) c fun f g=>
 RR (ay (.func (.func 198) #[] #[]) [f]) g fun f g=>
 CondV f (
 RR (sOp (.fieldAddr 32 (.const a) 3) 0) g fun f g=>
 RR (sOp (.load 30 (.const f)) 30) g fun f g=>
 RR (sOp (.indexAddr 30 (.const f) (.const (.int .i64 0))) 0) g fun f g=>
 RR (sOp (.load 32 (.const f)) 32) g fun f g=>
 RR (aR 30 1 [(0,f)]) g fun f g=>
 RR (aA .append #[30,30] 30 [false,false] [b,f]) g fun f g=>
 RR (sOp (.fieldAddr 32 (.const a) 3) 0) g fun g h=>
 RR (sOp (.load 30 (.const g)) 30) h fun g h=>
 RR (sOp (.indexAddr 30 (.const g) (.const (.int .i64 1))) 0) h fun g h=>
 RR (sOp (.load 32 (.const g)) 32) h fun g h=>
 RR (sOp (.store 32 (.const a) (.const g)) 0) h fun _ a=>
 d f a/\e f a<e b c) (
 RR (sOp (.load 32 (.const a)) 32) g fun c d=>
 RR (ay (.func (.func 206) #[] #[]) [c]) d fun c d=>
 CondV c (
 RR (ay (.func (.func 204) #[] #[]) [b]) d fun a b=>
 RR (au .add 9 true false (.string ⟨#[91]⟩) a) b fun a b=>
 RR (au .add 9 false true a (.string ⟨#[93]⟩)) b fun a b=>
 R (.returned a) b) (
 (∃ c:(Nat->Bool)->Value->Value->Value->Value->Value->Value->Value->Value->Value->World->Prop,c (fun _=>false) (.string ⟨#[]⟩) undef undef undef undef undef undef undef undef { d with drawn:=d.drawn+1 }/\(
 (∀ a:Nat->Bool,a 0=false->∀ d e f g h i j k l m,c a d e f g h i j k l m->
 c (av a 0) d e f g h i j k b m)/\
 (∀ a:Nat->Bool,a 1=false->a 0=true->∀ b d e f g h i j k l,c a b d e f g h i j k l->
 RR (ay (.func (.func 204) #[] #[]) [k]) l fun j l=>
 c (av a 1) b d e f g h i j k l)/\
 (∀ a:Nat->Bool,a 2=false->a 1=true->∀ b d e f g h i j k l,c a b d e f g h i j k l->
 RR (au .add 9 true false (.string ⟨#[91]⟩) j) l fun i l=>
 c (av a 2) b d e f g h i j k l)/\
 (∀ a:Nat->Bool,a 3=false->a 2=true->∀ b d e f g h i j k l,c a b d e f g h i j k l->
 RR (au .add 9 false true i (.string ⟨#[124]⟩)) l fun h l=>
 c (av a 3) b d e f g h i j k l)/\
 (∀ b:Nat->Bool,b 4=false->∀ d e f g h i j k l m,c b d e f g h i j k l m->
 RR (sOp (.load 32 (.const a)) 32) m fun a h=>
 c (av b 4) d e f g a i j k l h)/\
 (∀ a:Nat->Bool,a 5=false->a 4=true->a 1=true->∀ b d e f g h i j k l,c a b d e f g h i j k l->
 RR (ay (.func (.func 191) #[] #[]) [g]) l fun f l=>
 c (av a 5) b d e f g h i j k l)/\
 (∀ a:Nat->Bool,a 6=false->a 3=true->a 5=true->∀ b d e f g h i j k l,c a b d e f g h i j k l->
 RR (au .add 9 false false h f) l fun e l=>
 c (av a 6) b d e f g h i j k l)/\
 (∀ a:Nat->Bool,a 7=false->a 6=true->∀ b d e f g h i j k l,c a b d e f g h i j k l->
 RR (au .add 9 false true e (.string ⟨#[93]⟩)) l fun d l=>
 c (av a 7) b d e f g h i j k l)/\
 (∀ a:Nat->Bool,a 8=false->a 7=true->a 5=true->a 0=true->a 1=true->a 2=true->a 3=true->a 4=true->a 5=true->a 6=true->a 7=true->∀ b d e f g h i j k l,c a b d e f g h i j k l->
 c (av a 8) d d e f g h i j k l)/\
 True)/\
 ∀ a:Nat->Bool,a 8=true->a 7=true->a 6=true->a 5=true->a 4=true->a 3=true->a 2=true->a 1=true->a 0=true->∀ b d e f g h i j k l,c a b d e f g h i j k l->
 R (.returned b) l))))
theorem tQ {p0:Value} {w:World} {R:Ending->World->Prop} (h:qF p0 w R):Calls Tryz.prog 199 #[p0] w R:=
  aL (.seq none .leaf (.seq none .leaf (.seq none (.one (.loop [3] .leaf)) .leaf))) [p0] bl Tryz.func199 (by kernel_rfl) (by kernel_rfl) h


/- loop.example/prologserver/spec.l2Infix : function 200 -/
def n3 (p0:Value) (w:World) (R:Ending->World->Prop):Prop:=
 RR (sOp (.box 32 (.const p0)) 0) w fun a b=>
 RR (sOp (.fieldAddr 32 (.const a) 0) 0) b fun b c=>
 RR (sOp (.load 3 (.const b)) 3) c fun b c=>
 RR (au .eql 3 false true b (.int .i64 3)) c fun b c=>
 ((fun d:VW=>ah b true (
 RR (sOp (.fieldAddr 32 (.const a) 3) 0) c fun a c=>
 RR (sOp (.load 30 (.const a)) 30) c fun a c=>
 RR (aA .len #[30] 3 [false] [a]) c fun a c=>
 RR (au .eql 3 false true a (.int .i64 2)) c fun a c=>
 RR (sOp (.pick (.const b) (.const a) (.const (.bool false))) 4) c fun a b=>d a b) (
 RR (sOp (.pick (.const b) (.const undef) (.const (.bool false))) 4) c fun a b=>d a b)) fun b c=>
 ah b true (
 RR (sOp (.fieldAddr 32 (.const a) 2) 0) c fun a c=>
 RR (sOp (.load 9 (.const a)) 9) c fun a c=>
 RR (ay (.func (.func 156) #[] #[]) [a]) c fun a c=>
 RR (au .gtr 3 false true a (.int .i64 0)) c fun a c=>
 RR (sOp (.pick (.const b) (.const a) (.const (.bool false))) 4) c fun a b=>
 R (.returned a) b) (
 RR (sOp (.pick (.const b) (.const undef) (.const (.bool false))) 4) c fun a b=>
 R (.returned a) b))
theorem sE {p0:Value} {w:World} {R:Ending->World->Prop} (h:n3 p0 w R):Calls Tryz.prog 200 #[p0] w R:=
  aL .leaf [p0] bl Tryz.func200 (by kernel_rfl) (by kernel_rfl) h


/- loop.example/prologserver/spec.l2Left : function 201 -/
def qZ (p0 p1:Value) (w:World) (R:Ending->World->Prop):Prop:=
 RR (sOp (.box 32 (.const p0)) 0) w fun a b=>
 RR (sOp (.load 32 (.const a)) 32) b fun b c=>
 RR (ay (.func (.func 207) #[] #[]) [b]) c fun b c=>
 CondV b (
 RR (sOp (.load 32 (.const a)) 32) c fun a b=>
 RR (ay (.func (.func 191) #[] #[]) [a]) b fun a b=>
 RR (au .add 9 true false (.string ⟨#[40]⟩) a) b fun a b=>
 RR (au .add 9 false true a (.string ⟨#[41]⟩)) b fun a b=>
 R (.returned a) b) (
 RR (sOp (.load 32 (.const a)) 32) c fun a b=>
 RR (ay (.func (.func 208) #[] #[]) [a,p1]) b fun a b=>
 R (.returned a) b)
theorem uM {p0 p1:Value} {w:World} {R:Ending->World->Prop} (h:qZ p0 p1 w R):Calls Tryz.prog 201 #[p0,p1] w R:=
  aL .leaf [p0,p1] bl Tryz.func201 (by kernel_rfl) (by kernel_rfl) h


/- loop.example/prologserver/spec.l2Spaced : function 202 -/
def mw (p0:Value) (w:World) (R:Ending->World->Prop):Prop:=
 (∃ a:Value->World->Prop,(
 RR (au .eql 9 false true p0 (.string ⟨#[105,115]⟩)) w fun b c=>
 ah b false (
 RR (au .eql 9 false true p0 (.string ⟨#[109,111,100]⟩)) c fun c d=>
 RR (sOp (.pick (.const b) (.const (.bool true)) (.const c)) 4) d fun b c=>
 a b c) (
 RR (sOp (.pick (.const b) (.const (.bool true)) (.const undef)) 4) c fun b c=>
 a b c))/\
 ∀ b _ _ _ _ _:Value,∀ c:World,a b c->
 CondV b (
 RR (au .add 9 true false (.string ⟨#[32]⟩) p0) c fun a b=>
 RR (au .add 9 false true a (.string ⟨#[32]⟩)) b fun a b=>
 R (.returned a) b) (
 R (.returned p0) c))
theorem pU {p0:Value} {w:World} {R:Ending->World->Prop} (h:mw p0 w R):Calls Tryz.prog 202 #[p0] w R:=
  aL (.seq none .leaf (.seq none (.seq (some [8]) .leaf .leaf) .leaf)) [p0] bl Tryz.func202 (by kernel_rfl) (by kernel_rfl) h


/- loop.example/prologserver/spec.l2Right : function 203 -/
def oS (p0 p1:Value) (w:World) (R:Ending->World->Prop):Prop:=
 RR (sOp (.box 32 (.const p0)) 0) w fun a b=>
 RR (sOp (.load 32 (.const a)) 32) b fun b c=>
 RR (ay (.func (.func 208) #[] #[]) [b,p1]) c fun b c=>
 (∃ d:Value->World->Prop,(
 RR (sOp (.load 32 (.const a)) 32) c fun a c=>
 RR (ay (.func (.func 207) #[] #[]) [a]) c fun a c=>
 ah a false (
 RR (ay (.func (.func 209) #[] #[]) [b]) c fun b c=>
 RR (sOp (.unOp .not 4 (.const b)) 4) c fun b c=>
 RR (sOp (.pick (.const a) (.const (.bool true)) (.const b)) 4) c fun a b=>
 d a b) (
 RR (sOp (.pick (.const a) (.const (.bool true)) (.const undef)) 4) c fun a b=>
 d a b))/\
 ∀ a _ _ _ _ _ _:Value,∀ c:World,d a c->
 CondV a (
 RR (au .add 9 true false (.string ⟨#[40]⟩) b) c fun a b=>
 RR (au .add 9 false true a (.string ⟨#[41]⟩)) b fun a b=>
 R (.returned a) b) (
 R (.returned b) c))
theorem sx {p0 p1:Value} {w:World} {R:Ending->World->Prop} (h:oS p0 p1 w R):Calls Tryz.prog 203 #[p0,p1] w R:=
  aL (.seq none .leaf (.seq none .leaf (.seq none (.seq (some [15]) .leaf .leaf) .leaf))) [p0,p1] bl Tryz.func203 (by kernel_rfl) (by kernel_rfl) h


/- loop.example/prologserver/spec.l2Args : function 204 -/
def rz (p0:Value) (w:World) (R:Ending->World->Prop):Prop:=
 (∃ (a:Value->Value->World->Prop) (b:Value->Value->World->Nat),a (.int .i64 0) (.string ⟨#[]⟩) w/\
 ∀ c _ _ _ _ _ _ _ _ _ d _ _ _ _ _ _ _ _:Value,∀ e:World,a c d e->
 RR (aA .len #[30] 3 [false] [p0]) e fun f g=>
 RR (au .lss 3 false false c f) g fun f g=>
 CondV f (
 (∃ f:Value->World->Prop,(
 RR (au .gtr 3 false true c (.int .i64 0)) g fun a b=>
 CondV a (
 RR (au .add 9 false true d (.string ⟨#[44]⟩)) b fun a b=>
 f a b) (
 f d b))/\
 ∀ g _ _ _ _:Value,∀ h:World,f g h->
 RR (sOp (.indexAddr 30 (.const p0) (.const c)) 0) h fun f h=>
 RR (sOp (.load 32 (.const f)) 32) h fun f h=>
 RR (ay (.func (.func 191) #[] #[]) [f]) h fun f h=>
 RR (au .add 9 false false g f) h fun f g=>
 RR (au .add 3 false true c (.int .i64 1)) g fun g h=>
 a g f h/\b g f h<b c d e)) (
 R (.returned d) g))
theorem tD {p0:Value} {w:World} {R:Ending->World->Prop} (h:rz p0 w R):Calls Tryz.prog 204 #[p0] w R:=
  aL (.seq none .leaf (.seq none .leaf (.seq none (.seq none .leaf (.one (.loop [4,3] (.seq none .leaf (.seq none (.one (.seq (some [3]) .leaf .leaf)) .leaf))))) .leaf))) [p0] bl Tryz.func204 (by kernel_rfl) (by kernel_rfl) h


/- loop.example/prologserver/spec.l1Text : function 205 -/
def rj (p0:Value) (w:World) (R:Ending->World->Prop):Prop:=
 RR (sOp (.box 32 (.const p0)) 0) w fun a b=>
 RR (sOp (.fieldAddr 32 (.const a) 0) 0) b fun b c=>
 RR (sOp (.load 3 (.const b)) 3) c fun b c=>
 RR (au .eql 3 false true b (.int .i64 1)) c fun c d=>
 CondV c (
 RR (sOp (.fieldAddr 32 (.const a) 1) 0) d fun a b=>
 RR (sOp (.load 3 (.const a)) 3) b fun a b=>
 RR (ay (.func (.func 210) #[] #[]) [a]) b fun a b=>
 R (.returned a) b) (
 RR (au .eql 3 false true b (.int .i64 2)) d fun b c=>
 CondV b (
 RR (sOp (.fieldAddr 32 (.const a) 1) 0) c fun a b=>
 RR (sOp (.load 3 (.const a)) 3) b fun a b=>
 RR (ay (.func (.func 211) #[] #[]) [a]) b fun a b=>
 R (.returned a) b) (
 RR (sOp (.load 32 (.const a)) 32) c fun b c=>
 RR (ay (.func (.func 198) #[] #[]) [b]) c fun b c=>
 CondV b (
 RR (sOp (.load 32 (.const a)) 32) c fun a b=>
 RR (ay (.func (.func 212) #[] #[]) [a]) b fun a b=>
 R (.returned a) b) (
 RR (sOp (.fieldAddr 32 (.const a) 2) 0) c fun b c=>
 RR (sOp (.load 9 (.const b)) 9) c fun b c=>
 (∃ (d:Value->Value->World->Prop) (e:Value->Value->World->Nat),d (.int .i64 0) b c/\
 ∀ b _ _ _ _ _ _ _ _ _ _ _ _ c _ _ _ _ _ _ _ _ _:Value,∀ f:World,d b c f->
 RR (sOp (.fieldAddr 32 (.const a) 3) 0) f fun g h=>
 RR (sOp (.load 30 (.const g)) 30) h fun g h=>
 RR (aA .len #[30] 3 [false] [g]) h fun g h=>
 RR (au .lss 3 false false b g) h fun g h=>
 CondV g (
 (∃ g:Value->World->Prop,(
 RR (au .eql 3 false true b (.int .i64 0)) h fun a b=>
 CondV a (
 RR (au .add 9 false true c (.string ⟨#[40]⟩)) b fun a b=>
 g a b) (
 RR (au .add 9 false true c (.string ⟨#[44]⟩)) b fun a b=>
 g a b))/\
 ∀ _ _ h _ _ _ _:Value,∀ i:World,g h i->
 RR (sOp (.fieldAddr 32 (.const a) 3) 0) i fun a g=>
 RR (sOp (.load 30 (.const a)) 30) g fun a g=>
 RR (sOp (.indexAddr 30 (.const a) (.const b)) 0) g fun a g=>
 RR (sOp (.load 32 (.const a)) 32) g fun a g=>
 RR (ay (.func (.func 205) #[] #[]) [a]) g fun a g=>
 RR (au .add 9 false false h a) g fun a g=>
 RR (au .add 3 false true b (.int .i64 1)) g fun g h=>
 d g a h/\e g a h<e b c f)) (
 (∃ b:Value->World->Prop,(
 RR (sOp (.fieldAddr 32 (.const a) 3) 0) h fun a d=>
 RR (sOp (.load 30 (.const a)) 30) d fun a d=>
 RR (aA .len #[30] 3 [false] [a]) d fun a d=>
 RR (au .gtr 3 false true a (.int .i64 0)) d fun a d=>
 CondV a (
 RR (au .add 9 false true c (.string ⟨#[41]⟩)) d fun a c=>
 b a c) (
 b c d))/\
 ∀ a _ _ _ _ _ _:Value,∀ c:World,b a c->
 R (.returned a) c))))))
theorem tk {p0:Value} {w:World} {R:Ending->World->Prop} (h:rj p0 w R):Calls Tryz.prog 205 #[p0] w R:=
  aL (.seq none .leaf (.seq none .leaf (.seq none .leaf (.seq none .leaf (.seq none (.seq none .leaf (.one (.loop [4,3] (.seq none .leaf (.seq none (.one (.seq (some [3]) .leaf .leaf)) .leaf))))) (.seq (some [3]) .leaf .leaf)))))) [p0] bl Tryz.func205 (by kernel_rfl) (by kernel_rfl) h


/- loop.example/prologserver/spec.l1Nil : function 206 -/
def ti (p0:Value) (w:World) (R:Ending->World->Prop):Prop:=
 RR (sOp (.box 32 (.const p0)) 0) w fun a b=>
 RR (sOp (.fieldAddr 32 (.const a) 0) 0) b fun b c=>
 RR (sOp (.load 3 (.const b)) 3) c fun b c=>
 RR (au .eql 3 false true b (.int .i64 3)) c fun b c=>
 ((fun d:VW=>ah b true (
 RR (sOp (.fieldAddr 32 (.const a) 2) 0) c fun a c=>
 RR (sOp (.load 9 (.const a)) 9) c fun a c=>
 RR (au .eql 9 false true a (.string ⟨#[91,93]⟩)) c fun a c=>
 RR (sOp (.pick (.const b) (.const a) (.const (.bool false))) 4) c fun a b=>d a b) (
 RR (sOp (.pick (.const b) (.const undef) (.const (.bool false))) 4) c fun a b=>d a b)) fun b c=>
 ah b true (
 RR (sOp (.fieldAddr 32 (.const a) 3) 0) c fun a c=>
 RR (sOp (.load 30 (.const a)) 30) c fun a c=>
 RR (aA .len #[30] 3 [false] [a]) c fun a c=>
 RR (au .eql 3 false true a (.int .i64 0)) c fun a c=>
 RR (sOp (.pick (.const b) (.const a) (.const (.bool false))) 4) c fun a b=>
 R (.returned a) b) (
 RR (sOp (.pick (.const b) (.const undef) (.const (.bool false))) 4) c fun a b=>
 R (.returned a) b))
theorem vG {p0:Value} {w:World} {R:Ending->World->Prop} (h:ti p0 w R):Calls Tryz.prog 206 #[p0] w R:=
  aL .leaf [p0] bl Tryz.func206 (by kernel_rfl) (by kernel_rfl) h


/- loop.example/prologserver/spec.l2Sole : function 207 -/
def qJ (p0:Value) (w:World) (R:Ending->World->Prop):Prop:=
 RR (sOp (.box 32 (.const p0)) 0) w fun a b=>
 RR (sOp (.fieldAddr 32 (.const a) 0) 0) b fun b c=>
 RR (sOp (.load 3 (.const b)) 3) c fun b c=>
 RR (au .eql 3 false true b (.int .i64 3)) c fun b c=>
 ((fun d:VW=>ah b true (
 RR (sOp (.fieldAddr 32 (.const a) 3) 0) c fun a c=>
 RR (sOp (.load 30 (.const a)) 30) c fun a c=>
 RR (aA .len #[30] 3 [false] [a]) c fun a c=>
 RR (au .eql 3 false true a (.int .i64 0)) c fun a c=>
 RR (sOp (.pick (.const b) (.const a) (.const (.bool false))) 4) c fun a b=>d a b) (
 RR (sOp (.pick (.const b) (.const undef) (.const (.bool false))) 4) c fun a b=>d a b)) fun b c=>
 ah b true (
 RR (sOp (.fieldAddr 32 (.const a) 2) 0) c fun a c=>
 RR (sOp (.load 9 (.const a)) 9) c fun a c=>
 RR (ay (.func (.func 156) #[] #[]) [a]) c fun a c=>
 RR (au .gtr 3 false true a (.int .i64 0)) c fun a c=>
 RR (sOp (.pick (.const b) (.const a) (.const (.bool false))) 4) c fun a b=>
 R (.returned a) b) (
 RR (sOp (.pick (.const b) (.const undef) (.const (.bool false))) 4) c fun a b=>
 R (.returned a) b))
theorem sO {p0:Value} {w:World} {R:Ending->World->Prop} (h:qJ p0 w R):Calls Tryz.prog 207 #[p0] w R:=
  aL .leaf [p0] bl Tryz.func207 (by kernel_rfl) (by kernel_rfl) h


/- loop.example/prologserver/spec.l2Bracket : function 208 -/
def ld (p0 p1:Value) (w:World) (R:Ending->World->Prop):Prop:=
 RR (sOp (.box 32 (.const p0)) 0) w fun a b=>
 (∃ c:Value->World->Prop,(
 RR (sOp (.load 32 (.const a)) 32) b fun b d=>
 RR (ay (.func (.func 200) #[] #[]) [b]) d fun b d=>
 ah b true (
 RR (sOp (.fieldAddr 32 (.const a) 2) 0) d fun a d=>
 RR (sOp (.load 9 (.const a)) 9) d fun a d=>
 RR (ay (.func (.func 156) #[] #[]) [a]) d fun a d=>
 RR (au .gtr 3 false false a p1) d fun a d=>
 RR (sOp (.pick (.const b) (.const a) (.const (.bool false))) 4) d fun a b=>
 c a b) (
 RR (sOp (.pick (.const b) (.const undef) (.const (.bool false))) 4) d fun a b=>
 c a b))/\
 ∀ b _ _ _ _ _ _ _ _:Value,∀ d:World,c b d->
 CondV b (
 RR (sOp (.load 32 (.const a)) 32) d fun a b=>
 RR (ay (.func (.func 191) #[] #[]) [a]) b fun a b=>
 RR (au .add 9 true false (.string ⟨#[40]⟩) a) b fun a b=>
 RR (au .add 9 false true a (.string ⟨#[41]⟩)) b fun a b=>
 R (.returned a) b) (
 RR (sOp (.load 32 (.const a)) 32) d fun a b=>
 RR (ay (.func (.func 191) #[] #[]) [a]) b fun a b=>
 R (.returned a) b))
theorem oW {p0 p1:Value} {w:World} {R:Ending->World->Prop} (h:ld p0 p1 w R):Calls Tryz.prog 208 #[p0,p1] w R:=
  aL (.seq none .leaf (.seq none (.seq (some [13]) .leaf .leaf) .leaf)) [p0,p1] bl Tryz.func208 (by kernel_rfl) (by kernel_rfl) h


/- loop.example/prologserver/spec.l2Plain : function 209 -/
def oq (p0:Value) (w:World) (R:Ending->World->Prop):Prop:=
 RR (ay (.func (.func 197) #[] #[]) [p0,(.int .i64 0)]) w fun a b=>
 ((fun c:VW=>ah a false (
 RR (ay (.func (.func 187) #[] #[]) [p0,(.int .i64 0)]) b fun b d=>
 RR (sOp (.pick (.const a) (.const (.bool true)) (.const b)) 4) d fun a b=>c a b) (
 RR (sOp (.pick (.const a) (.const (.bool true)) (.const undef)) 4) b fun a b=>c a b)) fun a b=>
 ah a false (
 RR (sOp (.index 9 (.const p0) (.const (.int .i64 0))) 5) b fun b c=>
 RR (au .geq 5 false true b (.int .u8 65)) c fun b c=>
 ah b true (
 RR (sOp (.index 9 (.const p0) (.const (.int .i64 0))) 5) c fun c d=>
 RR (au .leq 5 false true c (.int .u8 90)) d fun c d=>
 ((fun e:VW=>ah a false (
 RR (sOp (.pick (.const b) (.const c) (.const (.bool false))) 4) d fun b c=>
 RR (sOp (.pick (.const a) (.const (.bool true)) (.const b)) 4) c fun a b=>e a b) (
 RR (sOp (.pick (.const a) (.const (.bool true)) (.const undef)) 4) d fun a b=>e a b)) fun a b=>
 ((fun c:VW=>ah a false (
 RR (sOp (.index 9 (.const p0) (.const (.int .i64 0))) 5) b fun b d=>
 RR (au .eql 5 false true b (.int .u8 91)) d fun b d=>
 RR (sOp (.pick (.const a) (.const (.bool true)) (.const b)) 4) d fun a b=>c a b) (
 RR (sOp (.pick (.const a) (.const (.bool true)) (.const undef)) 4) b fun a b=>c a b)) fun a b=>
 ah a false (
 RR (sOp (.index 9 (.const p0) (.const (.int .i64 0))) 5) b fun b c=>
 RR (au .eql 5 false true b (.int .u8 40)) c fun b c=>
 RR (sOp (.pick (.const a) (.const (.bool true)) (.const b)) 4) c fun a b=>
 R (.returned a) b) (
 RR (sOp (.pick (.const a) (.const (.bool true)) (.const undef)) 4) b fun a b=>
 R (.returned a) b)))) (
 ((fun d:VW=>ah a false (
 RR (sOp (.pick (.const b) (.const undef) (.const (.bool false))) 4) c fun b c=>
 RR (sOp (.pick (.const a) (.const (.bool true)) (.const b)) 4) c fun a b=>d a b) (
 RR (sOp (.pick (.const a) (.const (.bool true)) (.const undef)) 4) c fun a b=>d a b)) fun a b=>
 ((fun c:VW=>ah a false (
 RR (sOp (.index 9 (.const p0) (.const (.int .i64 0))) 5) b fun b d=>
 RR (au .eql 5 false true b (.int .u8 91)) d fun b d=>
 RR (sOp (.pick (.const a) (.const (.bool true)) (.const b)) 4) d fun a b=>c a b) (
 RR (sOp (.pick (.const a) (.const (.bool true)) (.const undef)) 4) b fun a b=>c a b)) fun a b=>
 ah a false (
 RR (sOp (.index 9 (.const p0) (.const (.int .i64 0))) 5) b fun b c=>
 RR (au .eql 5 false true b (.int .u8 40)) c fun b c=>
 RR (sOp (.pick (.const a) (.const (.bool true)) (.const b)) 4) c fun a b=>
 R (.returned a) b) (
 RR (sOp (.pick (.const a) (.const (.bool true)) (.const undef)) 4) b fun a b=>
 R (.returned a) b))))) (
 ah undef true (
 RR (sOp (.index 9 (.const p0) (.const (.int .i64 0))) 5) b fun b c=>
 RR (au .leq 5 false true b (.int .u8 90)) c fun b c=>
 ((fun d:VW=>ah a false (
 RR (sOp (.pick (.const undef) (.const b) (.const (.bool false))) 4) c fun b c=>
 RR (sOp (.pick (.const a) (.const (.bool true)) (.const b)) 4) c fun a b=>d a b) (
 RR (sOp (.pick (.const a) (.const (.bool true)) (.const undef)) 4) c fun a b=>d a b)) fun a b=>
 ((fun c:VW=>ah a false (
 RR (sOp (.index 9 (.const p0) (.const (.int .i64 0))) 5) b fun b d=>
 RR (au .eql 5 false true b (.int .u8 91)) d fun b d=>
 RR (sOp (.pick (.const a) (.const (.bool true)) (.const b)) 4) d fun a b=>c a b) (
 RR (sOp (.pick (.const a) (.const (.bool true)) (.const undef)) 4) b fun a b=>c a b)) fun a b=>
 ah a false (
 RR (sOp (.index 9 (.const p0) (.const (.int .i64 0))) 5) b fun b c=>
 RR (au .eql 5 false true b (.int .u8 40)) c fun b c=>
 RR (sOp (.pick (.const a) (.const (.bool true)) (.const b)) 4) c fun a b=>
 R (.returned a) b) (
 RR (sOp (.pick (.const a) (.const (.bool true)) (.const undef)) 4) b fun a b=>
 R (.returned a) b)))) (
 ((fun c:VW=>ah a false (
 RR (sOp (.pick (.const undef) (.const undef) (.const (.bool false))) 4) b fun b d=>
 RR (sOp (.pick (.const a) (.const (.bool true)) (.const b)) 4) d fun a b=>c a b) (
 RR (sOp (.pick (.const a) (.const (.bool true)) (.const undef)) 4) b fun a b=>c a b)) fun a b=>
 ((fun c:VW=>ah a false (
 RR (sOp (.index 9 (.const p0) (.const (.int .i64 0))) 5) b fun b d=>
 RR (au .eql 5 false true b (.int .u8 91)) d fun b d=>
 RR (sOp (.pick (.const a) (.const (.bool true)) (.const b)) 4) d fun a b=>c a b) (
 RR (sOp (.pick (.const a) (.const (.bool true)) (.const undef)) 4) b fun a b=>c a b)) fun a b=>
 ah a false (
 RR (sOp (.index 9 (.const p0) (.const (.int .i64 0))) 5) b fun b c=>
 RR (au .eql 5 false true b (.int .u8 40)) c fun b c=>
 RR (sOp (.pick (.const a) (.const (.bool true)) (.const b)) 4) c fun a b=>
 R (.returned a) b) (
 RR (sOp (.pick (.const a) (.const (.bool true)) (.const undef)) 4) b fun a b=>
 R (.returned a) b))))))
theorem rX {p0:Value} {w:World} {R:Ending->World->Prop} (h:oq p0 w R):Calls Tryz.prog 209 #[p0] w R:=
  aL .leaf [p0] bl Tryz.func209 (by kernel_rfl) (by kernel_rfl) h


/- loop.example/prologserver/spec.l1Letter : function 210 -/
def mF (p0:Value) (w:World) (R:Ending->World->Prop):Prop:=
 RR (sOp (.convert 3 5 (.const p0)) 5) w fun a b=>
 RR (au .add 5 true false (.int .u8 65) a) b fun a b=>
 RR (aR 22 1 [(0,a)]) b fun a b=>
 RR (sOp (.convert 22 9 (.const a)) 9) b fun a b=>
 R (.returned a) b
theorem qf {p0:Value} {w:World} {R:Ending->World->Prop} (h:mF p0 w R):Calls Tryz.prog 210 #[p0] w R:=
  aL .leaf [p0] bl Tryz.func210 (by kernel_rfl) (by kernel_rfl) h


/- loop.example/prologserver/spec.l1Dec : function 211 -/
def uf (p0:Value) (w:World) (R:Ending->World->Prop):Prop:=
 RR (au .lss 3 false true p0 (.int .i64 0)) w fun a b=>
 CondV a (
 RR (sOp (.unOp .neg 3 (.const p0)) 3) b fun a b=>
 RR (ay (.func (.func 213) #[] #[]) [a]) b fun a b=>
 RR (au .add 9 true false (.string ⟨#[45]⟩) a) b fun a b=>
 R (.returned a) b) (
 RR (ay (.func (.func 213) #[] #[]) [p0]) b fun a b=>
 R (.returned a) b)
theorem vw {p0:Value} {w:World} {R:Ending->World->Prop} (h:uf p0 w R):Calls Tryz.prog 211 #[p0] w R:=
  aL .leaf [p0] bl Tryz.func211 (by kernel_rfl) (by kernel_rfl) h


/- loop.example/prologserver/spec.l18Dec : function 213 -/
def q4 (p0:Value) (w:World) (R:Ending->World->Prop):Prop:=
 RR (au .lss 3 false true p0 (.int .i64 (-9223372036854775807))) w fun a b=>
 CondV a (
 R (.returned (.string ⟨#[45,57,50,50,51,51,55,50,48,51,54,56,53,52,55,55,53,56,48,56]⟩)) b) (
 RR (au .lss 3 false true p0 (.int .i64 0)) b fun a b=>
 CondV a (
 RR (sOp (.unOp .neg 3 (.const p0)) 3) b fun a b=>
 RR (ay (.func (.func 213) #[] #[]) [a]) b fun a b=>
 RR (au .add 9 true false (.string ⟨#[45]⟩) a) b fun a b=>
 R (.returned a) b) (
 (∃ (a:Value->Value->World->Prop) (c:Value->Value->World->Nat),a p0 (.string ⟨#[]⟩) b/\
 ∀ b _ _ d _ _ _ _ _ _ _ _ _ _:Value,∀ e:World,a b d e->
 RR (au .gtr 3 false true b (.int .i64 9)) e fun f g=>
 CondV f (
 RR (au .rem 3 false true b (.int .i64 10)) g fun f g=>
 RR (au .add 3 true false (.int .i64 48) f) g fun f g=>
 RR (sOp (.convert 3 5 (.const f)) 5) g fun f g=>
 RR (aR 22 1 [(0,f)]) g fun f g=>
 RR (sOp (.convert 22 9 (.const f)) 9) g fun f g=>
 RR (au .add 9 false false f d) g fun f g=>
 RR (au .quo 3 false true b (.int .i64 10)) g fun g h=>
 a g f h/\c g f h<c b d e) (
 RR (au .add 3 true false (.int .i64 48) b) g fun a b=>
 RR (sOp (.convert 3 5 (.const a)) 5) b fun a b=>
 RR (aR 22 1 [(0,a)]) b fun a b=>
 RR (sOp (.convert 22 9 (.const a)) 9) b fun a b=>
 RR (au .add 9 false false a d) b fun a b=>
 R (.returned a) b))))
theorem sU {p0:Value} {w:World} {R:Ending->World->Prop} (h:q4 p0 w R):Calls Tryz.prog 213 #[p0] w R:=
  aL (.seq none .leaf (.seq none .leaf (.seq none .leaf (.seq none .leaf (.seq none (.one (.loop [0,3] .leaf)) .leaf))))) [p0] bl Tryz.func213 (by kernel_rfl) (by kernel_rfl) h

end Go.Proofs.YtmnnpgdeecnfpaaGreat
