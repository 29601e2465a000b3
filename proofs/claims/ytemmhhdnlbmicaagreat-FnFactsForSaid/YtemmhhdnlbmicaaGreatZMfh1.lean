/- Made by program: the functions in a shallow form; each form gives Calls. -/
import Derived.Test.YtemmhhdnlbmicaaGreatZMfS
import Derived.Test.YtemmhhdnlbmicaaGreatProg
import Derived.Test.YtemmhhdnlbmicaaGreatZMfh0
import Derived.KernelRfl
set_option maxRecDepth 100000
namespace Go.Proofs.YtemmhhdnlbmicaaGreat
open Go
/- loop.example/prologserver/spec.IsBuiltin : function 163 -/
def kV (p0 p1:Value) (w:World) (R:Ending->World->Prop):Prop:=
 (∃ a:Value->World->Prop,(
 RR (ao .eql 9 false true p0 (.string ⟨#[61]⟩)) w fun b c=>
 CondV b (
 a b c) (
 RR (ao .eql 9 false true p0 (.string ⟨#[92,61]⟩)) c fun b c=>
 CondV b (
 a b c) (
 RR (ao .eql 9 false true p0 (.string ⟨#[61,61]⟩)) c fun b c=>
 CondV b (
 a b c) (
 RR (ao .eql 9 false true p0 (.string ⟨#[60]⟩)) c fun b c=>
 CondV b (
 a b c) (
 RR (ao .eql 9 false true p0 (.string ⟨#[62]⟩)) c fun b c=>
 CondV b (
 a b c) (
 RR (ao .eql 9 false true p0 (.string ⟨#[61,60]⟩)) c fun b c=>
 CondV b (
 a b c) (
 RR (ao .eql 9 false true p0 (.string ⟨#[62,61]⟩)) c fun b c=>
 CondV b (
 a b c) (
 RR (ao .eql 9 false true p0 (.string ⟨#[61,58,61]⟩)) c fun b c=>
 CondV b (
 a b c) (
 RR (ao .eql 9 false true p0 (.string ⟨#[105,115]⟩)) c fun b c=>
 a b c)))))))))/\
 ∀ _ _ _ _ _ _ _ _ b _:Value,∀ c:World,a b c->
 CondV b (
 RR (ao .eql 3 false true p1 (.int .i64 2)) c fun a b=>
 R (.returned a) b) (
 (∃ a:Value->World->Prop,(
 RR (ao .eql 9 false true p0 (.string ⟨#[116,114,117,101]⟩)) c fun b c=>
 CondV b (
 a b c) (
 RR (ao .eql 9 false true p0 (.string ⟨#[102,97,105,108]⟩)) c fun b c=>
 a b c))/\
 ∀ _ b _:Value,∀ c:World,a b c->
 CondV b (
 RR (ao .eql 3 false true p1 (.int .i64 0)) c fun a b=>
 R (.returned a) b) (
 (∃ a:Value->World->Prop,(
 RR (ao .eql 9 false true p0 (.string ⟨#[118,97,114]⟩)) c fun b c=>
 CondV b (
 a b c) (
 RR (ao .eql 9 false true p0 (.string ⟨#[110,111,110,118,97,114]⟩)) c fun b c=>
 CondV b (
 a b c) (
 RR (ao .eql 9 false true p0 (.string ⟨#[97,116,111,109]⟩)) c fun b c=>
 CondV b (
 a b c) (
 RR (ao .eql 9 false true p0 (.string ⟨#[105,110,116]⟩)) c fun b c=>
 a b c))))/\
 ∀ _ _ _ b _:Value,∀ c:World,a b c->
 CondV b (
 RR (ao .eql 3 false true p1 (.int .i64 1)) c fun a b=>
 R (.returned a) b) (
 RR (ao .eql 9 false true p0 (.string ⟨#[97,114,103]⟩)) c fun a b=>
 CondV a (
 RR (ao .eql 3 false true p1 (.int .i64 3)) b fun a b=>
 R (.returned a) b) (
 R (.returned (.bool false)) b)))))))
theorem pn {p0 p1:Value} {w:World} {R:Ending->World->Prop} (h:kV p0 p1 w R):Calls Tryz.prog 163 #[p0,p1] w R:=
  aN (.seq none .leaf (.seq none (.seq none .leaf (.one (.seq (some [6]) .leaf (.two .leaf (.seq (some [18]) .leaf (.two .leaf (.seq (some [23]) .leaf .leaf))))))) .leaf)) [p0,p1] bh Tryz.func163 (by kernel_rfl) (by kernel_rfl) h


/- loop.example/prologserver/spec.l2Level : function 164 -/
def oX (p0:Value) (w:World) (R:Ending->World->Prop):Prop:=
 (∃ a:Value->World->Prop,(
 RR (ao .eql 9 false true p0 (.string ⟨#[61]⟩)) w fun b c=>
 CondV b (
 a b c) (
 RR (ao .eql 9 false true p0 (.string ⟨#[92,61]⟩)) c fun b c=>
 CondV b (
 a b c) (
 RR (ao .eql 9 false true p0 (.string ⟨#[61,61]⟩)) c fun b c=>
 CondV b (
 a b c) (
 RR (ao .eql 9 false true p0 (.string ⟨#[60]⟩)) c fun b c=>
 CondV b (
 a b c) (
 RR (ao .eql 9 false true p0 (.string ⟨#[62]⟩)) c fun b c=>
 CondV b (
 a b c) (
 RR (ao .eql 9 false true p0 (.string ⟨#[61,60]⟩)) c fun b c=>
 CondV b (
 a b c) (
 RR (ao .eql 9 false true p0 (.string ⟨#[62,61]⟩)) c fun b c=>
 CondV b (
 a b c) (
 RR (ao .eql 9 false true p0 (.string ⟨#[61,58,61]⟩)) c fun b c=>
 CondV b (
 a b c) (
 RR (ao .eql 9 false true p0 (.string ⟨#[105,115]⟩)) c fun b c=>
 a b c)))))))))/\
 ∀ _ _ _ _ _ _ _ _ b _:Value,∀ c:World,a b c->
 CondV b (
 R (.returned (.int .i64 3)) c) (
 (∃ a:Value->World->Prop,(
 RR (ao .eql 9 false true p0 (.string ⟨#[43]⟩)) c fun b c=>
 CondV b (
 a b c) (
 RR (ao .eql 9 false true p0 (.string ⟨#[45]⟩)) c fun b c=>
 a b c))/\
 ∀ _ b _:Value,∀ c:World,a b c->
 CondV b (
 R (.returned (.int .i64 2)) c) (
 (∃ a:Value->World->Prop,(
 RR (ao .eql 9 false true p0 (.string ⟨#[42]⟩)) c fun b c=>
 CondV b (
 a b c) (
 RR (ao .eql 9 false true p0 (.string ⟨#[47,47]⟩)) c fun b c=>
 CondV b (
 a b c) (
 RR (ao .eql 9 false true p0 (.string ⟨#[109,111,100]⟩)) c fun b c=>
 a b c)))/\
 ∀ _ _ b _:Value,∀ c:World,a b c->
 CondV b (
 R (.returned (.int .i64 1)) c) (
 R (.returned (.int .i64 0)) c))))))
theorem sg {p0:Value} {w:World} {R:Ending->World->Prop} (h:oX p0 w R):Calls Tryz.prog 164 #[p0] w R:=
  aN (.seq none .leaf (.seq none (.seq none .leaf (.one (.seq (some [4]) .leaf (.two .leaf (.seq (some [14]) .leaf (.two .leaf (.seq (some [17]) .leaf .leaf))))))) .leaf)) [p0] bh Tryz.func164 (by kernel_rfl) (by kernel_rfl) h


/- loop.example/prologserver/spec.l1Rank : function 167 -/
def rr (p0:Value) (w:World) (R:Ending->World->Prop):Prop:=
 RR (sOp (.box 25 (.const p0)) 0) w fun a b=>
 (∃ c:Value->World->Prop,(
 RR (sOp (.fieldAddr 25 (.const a) 0) 0) b fun b d=>
 RR (sOp (.load 3 (.const b)) 3) d fun b d=>
 RR (ao .eql 3 false true b (.int .i64 3)) d fun b d=>
 ag b true (
 RR (sOp (.fieldAddr 25 (.const a) 3) 0) d fun a d=>
 RR (sOp (.load 23 (.const a)) 23) d fun a d=>
 RR (aq .len #[23] 3 [false] [a]) d fun a d=>
 RR (ao .gtr 3 false true a (.int .i64 0)) d fun a d=>
 RR (sOp (.pick (.const b) (.const a) (.const (.bool false))) 4) d fun a b=>
 c a b) (
 RR (sOp (.pick (.const b) (.const undef) (.const (.bool false))) 4) d fun a b=>
 c a b))/\
 ∀ b _ _ _ _ _ _ _ _:Value,∀ d:World,c b d->
 CondV b (
 R (.returned (.int .i64 4)) d) (
 RR (sOp (.fieldAddr 25 (.const a) 0) 0) d fun a b=>
 RR (sOp (.load 3 (.const a)) 3) b fun a b=>
 R (.returned a) b))
theorem sT {p0:Value} {w:World} {R:Ending->World->Prop} (h:rr p0 w R):Calls Tryz.prog 167 #[p0] w R:=
  aN (.seq none .leaf (.seq none (.seq (some [11]) .leaf .leaf) .leaf)) [p0] bh Tryz.func167 (by kernel_rfl) (by kernel_rfl) h


/- loop.example/prologserver/spec.l1Less : function 168 -/
def rA (p0 p1:Value) (w:World) (R:Ending->World->Prop):Prop:=
 RR (ao .lss 3 false false p0 p1) w fun a b=>
 CondV a (
 R (.returned (.int .i64 (-1))) b) (
 RR (ao .gtr 3 false false p0 p1) b fun a b=>
 CondV a (
 R (.returned (.int .i64 1)) b) (
 R (.returned (.int .i64 0)) b))
theorem uf {p0 p1:Value} {w:World} {R:Ending->World->Prop} (h:rA p0 p1 w R):Calls Tryz.prog 168 #[p0,p1] w R:=
  aN .leaf [p0,p1] bh Tryz.func168 (by kernel_rfl) (by kernel_rfl) h


/- loop.example/prologserver/spec.l1Before : function 169 -/
def mP (p0 p1:Value) (w:World) (R:Ending->World->Prop):Prop:=
 RR (ao .lss 9 false false p0 p1) w fun a b=>
 CondV a (
 R (.returned (.int .i64 (-1))) b) (
 RR (ao .gtr 9 false false p0 p1) b fun a b=>
 CondV a (
 R (.returned (.int .i64 1)) b) (
 R (.returned (.int .i64 0)) b))
theorem pZ {p0 p1:Value} {w:World} {R:Ending->World->Prop} (h:mP p0 p1 w R):Calls Tryz.prog 169 #[p0,p1] w R:=
  aN .leaf [p0,p1] bh Tryz.func169 (by kernel_rfl) (by kernel_rfl) h


/- loop.example/prologserver/spec.l2Prime : function 170 -/
def pt (p0 p1 p2:Value) (w:World) (R:Ending->World->Prop):Prop:=
 RR (sOp (.alloc 25) 0) w fun a b=>
 (∃ c:Value->World->Prop,(
 RR (ao .lss 3 false true p2 (.int .i64 1)) b fun a b=>
 ag a false (
 RR (aq .len #[9] 3 [false] [p0]) b fun b d=>
 RR (ao .geq 3 false false p1 b) d fun b d=>
 RR (sOp (.pick (.const a) (.const (.bool true)) (.const b)) 4) d fun a b=>
 c a b) (
 RR (sOp (.pick (.const a) (.const (.bool true)) (.const undef)) 4) b fun a b=>
 c a b))/\
 ∀ b _ _ _ _ _ _ _:Value,∀ d:World,c b d->
 CondV b (
 RR (aH (.func (.func 186) #[] #[]) [p1]) d fun b c=>
 RR (sOp (.extract (.const b) 0) 25) c fun c d=>
 RR (sOp (.extract (.const b) 1) 3) d fun b d=>
 RR (sOp (.store 25 (.const a) (.const c)) 0) d fun _ c=>
 (a4 Tryz.prog 25 a c fun a=>R (.returned (.tuple #[a,b])) c)) (
 RR (sOp (.index 9 (.const p0) (.const p1)) 5) d fun b c=>
 RR (ao .eql 5 false true b (.int .u8 40)) c fun b c=>
 CondV b (
 RR (ao .add 3 false true p1 (.int .i64 1)) c fun b c=>
 RR (aH (.func (.func 146) #[] #[]) [p0,b,p2,(.int .i64 3)]) c fun b c=>
 RR (sOp (.extract (.const b) 0) 25) c fun c d=>
 RR (sOp (.extract (.const b) 1) 3) d fun b d=>
 RR (sOp (.alloc 25) 0) d fun d e=>
 RR (sOp (.store 25 (.const d) (.const c)) 0) e fun _ c=>
 RR (ao .lss 3 false true b (.int .i64 0)) c fun c e=>
 CondV c (
 RR (cK 25 []) e fun c d=>
 RR (sOp (.store 25 (.const a) (.const c)) 0) d fun _ c=>
 (a4 Tryz.prog 25 a c fun a=>R (.returned (.tuple #[a,b])) c)) (
 RR (aH (.func (.func 147) #[] #[]) [p0,b,(.int .u8 41)]) e fun c e=>
 RR (sOp (.unOp .not 4 (.const c)) 4) e fun c e=>
 CondV c (
 RR (aH (.func (.func 186) #[] #[]) [b]) e fun b c=>
 RR (sOp (.extract (.const b) 0) 25) c fun c d=>
 RR (sOp (.extract (.const b) 1) 3) d fun b d=>
 RR (sOp (.store 25 (.const a) (.const c)) 0) d fun _ c=>
 (a4 Tryz.prog 25 a c fun a=>R (.returned (.tuple #[a,b])) c)) (
 RR (sOp (.load 25 (.const d)) 25) e fun c d=>
 RR (ao .add 3 false true b (.int .i64 1)) d fun b d=>
 RR (sOp (.store 25 (.const a) (.const c)) 0) d fun _ c=>
 (a4 Tryz.prog 25 a c fun a=>R (.returned (.tuple #[a,b])) c)))) (
 (∃ b:Value->World->Prop,(
 RR (sOp (.index 9 (.const p0) (.const p1)) 5) c fun a c=>
 RR (ao .eql 5 false true a (.int .u8 91)) c fun a c=>
 ag a true (
 RR (ao .add 3 false true p1 (.int .i64 1)) c fun c d=>
 RR (aH (.func (.func 147) #[] #[]) [p0,c,(.int .u8 93)]) d fun c d=>
 RR (sOp (.unOp .not 4 (.const c)) 4) d fun c d=>
 RR (sOp (.pick (.const a) (.const c) (.const (.bool false))) 4) d fun a c=>
 b a c) (
 RR (sOp (.pick (.const a) (.const undef) (.const (.bool false))) 4) c fun a c=>
 b a c))/\
 ∀ c _ _ _ _ _ _ _ _ _ _:Value,∀ d:World,b c d->
 CondV c (
 RR (ao .add 3 false true p1 (.int .i64 1)) d fun b c=>
 RR (ao .sub 3 false true p2 (.int .i64 1)) c fun c d=>
 RR (aH (.func (.func 187) #[] #[]) [p0,b,c]) d fun b c=>
 RR (sOp (.extract (.const b) 0) 25) c fun c d=>
 RR (sOp (.extract (.const b) 1) 3) d fun b d=>
 RR (sOp (.store 25 (.const a) (.const c)) 0) d fun _ c=>
 (a4 Tryz.prog 25 a c fun a=>R (.returned (.tuple #[a,b])) c)) (
 (∃ b:Value->World->Prop,(
 RR (sOp (.index 9 (.const p0) (.const p1)) 5) d fun a c=>
 RR (ao .geq 5 false true a (.int .u8 65)) c fun a c=>
 ag a true (
 RR (sOp (.index 9 (.const p0) (.const p1)) 5) c fun c d=>
 RR (ao .leq 5 false true c (.int .u8 90)) d fun c d=>
 RR (sOp (.pick (.const a) (.const c) (.const (.bool false))) 4) d fun a c=>
 b a c) (
 RR (sOp (.pick (.const a) (.const undef) (.const (.bool false))) 4) c fun a c=>
 b a c))/\
 ∀ c _ _ _ _ _ _ _ _ _:Value,∀ d:World,b c d->
 CondV c (
 RR (sOp (.index 9 (.const p0) (.const p1)) 5) d fun b c=>
 RR (ao .sub 5 false true b (.int .u8 65)) c fun b c=>
 RR (sOp (.convert 5 3 (.const b)) 3) c fun b c=>
 RR (aH (.func (.func 150) #[] #[]) [b]) c fun b c=>
 RR (ao .add 3 false true p1 (.int .i64 1)) c fun c d=>
 RR (sOp (.store 25 (.const a) (.const b)) 0) d fun _ b=>
 (a4 Tryz.prog 25 a b fun a=>R (.returned (.tuple #[a,c])) b)) (
 (∃ b:Value->World->Prop,(
 RR (aH (.func (.func 151) #[] #[]) [p0,p1]) d fun a c=>
 ag a false (
 RR (sOp (.index 9 (.const p0) (.const p1)) 5) c fun c d=>
 RR (ao .eql 5 false true c (.int .u8 45)) d fun c d=>
 ag c true (
 RR (ao .add 3 false true p1 (.int .i64 1)) d fun d e=>
 RR (aH (.func (.func 151) #[] #[]) [p0,d]) e fun d e=>
 ag a false (
 RR (sOp (.pick (.const c) (.const d) (.const (.bool false))) 4) e fun c d=>
 RR (sOp (.pick (.const a) (.const (.bool true)) (.const c)) 4) d fun a c=>
 b a c) (
 RR (sOp (.pick (.const a) (.const (.bool true)) (.const undef)) 4) e fun a c=>
 b a c)) (
 ag a false (
 RR (sOp (.pick (.const c) (.const undef) (.const (.bool false))) 4) d fun c d=>
 RR (sOp (.pick (.const a) (.const (.bool true)) (.const c)) 4) d fun a c=>
 b a c) (
 RR (sOp (.pick (.const a) (.const (.bool true)) (.const undef)) 4) d fun a c=>
 b a c))) (
 ag undef true (
 RR (ao .add 3 false true p1 (.int .i64 1)) c fun c d=>
 RR (aH (.func (.func 151) #[] #[]) [p0,c]) d fun c d=>
 ag a false (
 RR (sOp (.pick (.const undef) (.const c) (.const (.bool false))) 4) d fun c d=>
 RR (sOp (.pick (.const a) (.const (.bool true)) (.const c)) 4) d fun a c=>
 b a c) (
 RR (sOp (.pick (.const a) (.const (.bool true)) (.const undef)) 4) d fun a c=>
 b a c)) (
 ag a false (
 RR (sOp (.pick (.const undef) (.const undef) (.const (.bool false))) 4) c fun c d=>
 RR (sOp (.pick (.const a) (.const (.bool true)) (.const c)) 4) d fun a c=>
 b a c) (
 RR (sOp (.pick (.const a) (.const (.bool true)) (.const undef)) 4) c fun a c=>
 b a c))))/\
 ∀ c _ _ _ _ _ _ _ _ _ _ _ _ _ _:Value,∀ d:World,b c d->
 CondV c (
 RR (aH (.func (.func 152) #[] #[]) [p0,p1]) d fun b c=>
 RR (sOp (.extract (.const b) 0) 25) c fun c d=>
 RR (sOp (.extract (.const b) 1) 3) d fun b d=>
 RR (sOp (.alloc 25) 0) d fun d e=>
 RR (sOp (.store 25 (.const d) (.const c)) 0) e fun _ c=>
 RR (ao .lss 3 false true b (.int .i64 0)) c fun c e=>
 CondV c (
 RR (aH (.func (.func 186) #[] #[]) [p1]) e fun b c=>
 RR (sOp (.extract (.const b) 0) 25) c fun c d=>
 RR (sOp (.extract (.const b) 1) 3) d fun b d=>
 RR (sOp (.store 25 (.const a) (.const c)) 0) d fun _ c=>
 (a4 Tryz.prog 25 a c fun a=>R (.returned (.tuple #[a,b])) c)) (
 RR (sOp (.load 25 (.const d)) 25) e fun c d=>
 RR (sOp (.store 25 (.const a) (.const c)) 0) d fun _ c=>
 (a4 Tryz.prog 25 a c fun a=>R (.returned (.tuple #[a,b])) c))) (
 RR (aH (.func (.func 154) #[] #[]) [p0,p1]) d fun b c=>
 RR (sOp (.extract (.const b) 0) 9) c fun c d=>
 RR (sOp (.extract (.const b) 1) 3) d fun b d=>
 RR (ao .lss 3 false true b (.int .i64 0)) d fun d e=>
 CondV d (
 RR (aH (.func (.func 186) #[] #[]) [p1]) e fun b c=>
 RR (sOp (.extract (.const b) 0) 25) c fun c d=>
 RR (sOp (.extract (.const b) 1) 3) d fun b d=>
 RR (sOp (.store 25 (.const a) (.const c)) 0) d fun _ c=>
 (a4 Tryz.prog 25 a c fun a=>R (.returned (.tuple #[a,b])) c)) (
 RR (aH (.func (.func 147) #[] #[]) [p0,b,(.int .u8 40)]) e fun d e=>
 RR (sOp (.unOp .not 4 (.const d)) 4) e fun d e=>
 CondV d (
 RR (aH (.func (.func 78) #[] #[]) [c,(Value.slice none 0 0)]) e fun c d=>
 RR (sOp (.store 25 (.const a) (.const c)) 0) d fun _ c=>
 (a4 Tryz.prog 25 a c fun a=>R (.returned (.tuple #[a,b])) c)) (
 RR (ao .add 3 false true b (.int .i64 1)) e fun b d=>
 RR (ao .sub 3 false true p2 (.int .i64 1)) d fun d e=>
 RR (aH (.func (.func 188) #[] #[]) [p0,b,d,(.int .u8 41),(.int .u8 41)]) e fun b d=>
 RR (sOp (.extract (.const b) 0) 23) d fun d e=>
 RR (sOp (.extract (.const b) 1) 3) e fun b e=>
 RR (ao .lss 3 false true b (.int .i64 0)) e fun e f=>
 CondV e (
 RR (cK 25 []) f fun c d=>
 RR (sOp (.store 25 (.const a) (.const c)) 0) d fun _ c=>
 (a4 Tryz.prog 25 a c fun a=>R (.returned (.tuple #[a,b])) c)) (
 RR (cK 25 [(0,(.int .i64 3)),(2,c),(3,d)]) f fun c d=>
 RR (ao .add 3 false true b (.int .i64 1)) d fun b d=>
 RR (sOp (.store 25 (.const a) (.const c)) 0) d fun _ c=>
 (a4 Tryz.prog 25 a c fun a=>R (.returned (.tuple #[a,b])) c)))))))))))))
theorem sm {p0 p1 p2:Value} {w:World} {R:Ending->World->Prop} (h:pt p0 p1 p2 w R):Calls Tryz.prog 170 #[p0,p1,p2] w R:=
  aN (.seq none .leaf (.seq none (.seq (some [23]) .leaf .leaf) (.seq none .leaf (.seq none (.seq (some [65]) .leaf .leaf) (.seq none (.seq (some [83]) .leaf .leaf) (.seq none (.seq (some [106]) .leaf .leaf) .leaf)))))) [p0,p1,p2] bh Tryz.func170 (by kernel_rfl) (by kernel_rfl) h


/- loop.example/prologserver/spec.l2Op : function 171 -/
def wk (p0 p1:Value) (w:World) (R:Ending->World->Prop):Prop:=
 (∃ a:Value->World->Prop,(
 RR (aH (.func (.func 147) #[] #[]) [p0,p1,(.int .u8 32)]) w fun b c=>
 CondV b (
 RR (ao .add 3 false true p1 (.int .i64 1)) c fun b c=>
 a b c) (
 a p1 c))/\
 ∀ b _ _ _ _ _:Value,∀ c:World,a b c->
 RR (aq .len #[9] 3 [false] [p0]) c fun a c=>
 RR (ao .geq 3 false false b a) c fun a c=>
 CondV a (
 R (.returned (.tuple #[(.string ⟨#[]⟩),p1])) c) (
 RR (aH (.func (.func 154) #[] #[]) [p0,b]) c fun a c=>
 RR (sOp (.extract (.const a) 0) 9) c fun c d=>
 RR (sOp (.extract (.const a) 1) 3) d fun a d=>
 (∃ e:Value->World->Prop,(
 RR (ao .lss 3 false true a (.int .i64 0)) d fun a b=>
 ag a false (
 RR (aH (.func (.func 164) #[] #[]) [c]) b fun b c=>
 RR (ao .eql 3 false true b (.int .i64 0)) c fun b c=>
 RR (sOp (.pick (.const a) (.const (.bool true)) (.const b)) 4) c fun a b=>
 e a b) (
 RR (sOp (.pick (.const a) (.const (.bool true)) (.const undef)) 4) b fun a b=>
 e a b))/\
 ∀ d _ _ _ _ _ _:Value,∀ f:World,e d f->
 CondV d (
 R (.returned (.tuple #[(.string ⟨#[]⟩),p1])) f) (
 (∃ d:Value->World->Prop,(
 RR (ao .eql 9 false true c (.string ⟨#[105,115]⟩)) f fun a b=>
 ag a false (
 RR (ao .eql 9 false true c (.string ⟨#[109,111,100]⟩)) b fun b c=>
 RR (sOp (.pick (.const a) (.const (.bool true)) (.const b)) 4) c fun a b=>
 d a b) (
 RR (sOp (.pick (.const a) (.const (.bool true)) (.const undef)) 4) b fun a b=>
 d a b))/\
 ∀ e _ _ _ _ _ _:Value,∀ f:World,d e f->
 (∃ d:Value->World->Prop,(
 RR (ao .gtr 3 false false b p1) f fun b c=>
 RR (ao .neq 4 false false e b) c fun b c=>
 ag b false (
 ag e true (
 RR (aH (.func (.func 147) #[] #[]) [p0,a,(.int .u8 32)]) c fun a c=>
 RR (sOp (.unOp .not 4 (.const a)) 4) c fun a c=>
 ag b false (
 RR (sOp (.pick (.const e) (.const a) (.const (.bool false))) 4) c fun a c=>
 RR (sOp (.pick (.const b) (.const (.bool true)) (.const a)) 4) c fun a b=>
 d a b) (
 RR (sOp (.pick (.const b) (.const (.bool true)) (.const undef)) 4) c fun a b=>
 d a b)) (
 ag b false (
 RR (sOp (.pick (.const e) (.const undef) (.const (.bool false))) 4) c fun a c=>
 RR (sOp (.pick (.const b) (.const (.bool true)) (.const a)) 4) c fun a b=>
 d a b) (
 RR (sOp (.pick (.const b) (.const (.bool true)) (.const undef)) 4) c fun a b=>
 d a b))) (
 ag undef true (
 RR (aH (.func (.func 147) #[] #[]) [p0,a,(.int .u8 32)]) c fun a c=>
 RR (sOp (.unOp .not 4 (.const a)) 4) c fun a c=>
 ag b false (
 RR (sOp (.pick (.const undef) (.const a) (.const (.bool false))) 4) c fun a c=>
 RR (sOp (.pick (.const b) (.const (.bool true)) (.const a)) 4) c fun a b=>
 d a b) (
 RR (sOp (.pick (.const b) (.const (.bool true)) (.const undef)) 4) c fun a b=>
 d a b)) (
 ag b false (
 RR (sOp (.pick (.const undef) (.const undef) (.const (.bool false))) 4) c fun a c=>
 RR (sOp (.pick (.const b) (.const (.bool true)) (.const a)) 4) c fun a b=>
 d a b) (
 RR (sOp (.pick (.const b) (.const (.bool true)) (.const undef)) 4) c fun a b=>
 d a b))))/\
 ∀ b _ _ _ _ _ _ _ _ _ _ _ _ _:Value,∀ f:World,d b f->
 CondV b (
 R (.returned (.tuple #[(.string ⟨#[]⟩),p1])) f) (
 (∃ b:Value->World->Prop,(
 CondV e (
 RR (ao .add 3 false true a (.int .i64 1)) f fun a c=>
 b a c) (
 b a f))/\
 ∀ a _ _ _:Value,∀ d:World,b a d->
 R (.returned (.tuple #[c,a])) d))))))))
theorem yy {p0 p1:Value} {w:World} {R:Ending->World->Prop} (h:wk p0 p1 w R):Calls Tryz.prog 171 #[p0,p1] w R:=
  aN (.seq none .leaf (.seq none .leaf (.seq (some [6]) .leaf (.seq none .leaf (.seq none .leaf (.seq none (.seq (some [33]) .leaf .leaf) (.seq (some [9]) .leaf (.seq none (.seq (some [54]) .leaf .leaf) (.seq (some [8]) .leaf .leaf))))))))) [p0,p1] bh Tryz.func171 (by kernel_rfl) (by kernel_rfl) h


/- loop.example/prologserver/spec.l4Text : function 172 -/
def qP (p0:Value) (w:World) (R:Ending->World->Prop):Prop:=
 RR (sOp (.box 39 (.const p0)) 0) w fun a b=>
 RR (sOp (.fieldAddr 39 (.const a) 0) 0) b fun b c=>
 RR (sOp (.load 25 (.const b)) 25) c fun b c=>
 RR (aH (.func (.func 189) #[] #[]) [b]) c fun b c=>
 (∃ (d:Value->Value->World->Prop) (e:Value->Value->World->Nat),d (.int .i64 0) b c/\
 ∀ b _ _ _ _ _ _ _ _ _ _ _ _ c _ _ _ _ _ _ _ _ _:Value,∀ f:World,d b c f->
 RR (sOp (.fieldAddr 39 (.const a) 1) 0) f fun g h=>
 RR (sOp (.load 23 (.const g)) 23) h fun g h=>
 RR (aq .len #[23] 3 [false] [g]) h fun g h=>
 RR (ao .lss 3 false false b g) h fun g h=>
 CondV g (
 (∃ g:Value->World->Prop,(
 RR (ao .eql 3 false true b (.int .i64 0)) h fun a b=>
 CondV a (
 RR (ao .add 9 false true c (.string ⟨#[58,45]⟩)) b fun a b=>
 g a b) (
 RR (ao .add 9 false true c (.string ⟨#[44]⟩)) b fun a b=>
 g a b))/\
 ∀ _ _ h _ _ _ _:Value,∀ i:World,g h i->
 RR (sOp (.fieldAddr 39 (.const a) 1) 0) i fun a g=>
 RR (sOp (.load 23 (.const a)) 23) g fun a g=>
 RR (sOp (.indexAddr 23 (.const a) (.const b)) 0) g fun a g=>
 RR (sOp (.load 25 (.const a)) 25) g fun a g=>
 RR (aH (.func (.func 189) #[] #[]) [a]) g fun a g=>
 RR (ao .add 9 false false h a) g fun a g=>
 RR (ao .add 3 false true b (.int .i64 1)) g fun g h=>
 d g a h/\e g a h<e b c f)) (
 RR (ao .add 9 false true c (.string ⟨#[46]⟩)) h fun a b=>
 R (.returned a) b))
theorem s7 {p0:Value} {w:World} {R:Ending->World->Prop} (h:qP p0 w R):Calls Tryz.prog 172 #[p0] w R:=
  aN (.seq none .leaf (.seq none .leaf (.seq none (.seq none .leaf (.one (.loop [4,3] (.seq none .leaf (.seq none (.one (.seq (some [3]) .leaf .leaf)) .leaf))))) .leaf))) [p0] bh Tryz.func172 (by kernel_rfl) (by kernel_rfl) h


/- loop.example/prologserver/spec.l18Num : function 173 -/
def rv (p0:Value) (w:World) (R:Ending->World->Prop):Prop:=
 (∃ a:Value->World->Prop,(
 RR (aq .len #[9] 3 [false] [p0]) w fun b c=>
 RR (ao .gtr 3 false true b (.int .i64 0)) c fun b c=>
 ag b true (
 RR (sOp (.index 9 (.const p0) (.const (.int .i64 0))) 5) c fun c d=>
 RR (ao .eql 5 false true c (.int .u8 45)) d fun c d=>
 RR (sOp (.pick (.const b) (.const c) (.const (.bool false))) 4) d fun b c=>
 a b c) (
 RR (sOp (.pick (.const b) (.const undef) (.const (.bool false))) 4) c fun b c=>
 a b c))/\
 ∀ b _ _ _ _ _ _ _ _:Value,∀ c:World,a b c->
 (∃ a:Value->World->Prop,(
 CondV b (
 RR (sOp (.slice 9 (.const p0) (some (.const (.int .i64 1))) none none) 9) c fun b c=>
 a b c) (
 a p0 c))/\
 ∀ c _ _ _:Value,∀ d:World,a c d->
 (∃ a:Value->World->Prop,(
 RR (aq .len #[9] 3 [false] [c]) d fun d e=>
 RR (ao .eql 3 false true d (.int .i64 0)) e fun d e=>
 ((fun a:VW=>ag d false (
 RR (aq .len #[9] 3 [false] [c]) e fun b c=>
 RR (ao .gtr 3 false true b (.int .i64 17)) c fun b c=>
 RR (sOp (.pick (.const d) (.const (.bool true)) (.const b)) 4) c fun b c=>a b c) (
 RR (sOp (.pick (.const d) (.const (.bool true)) (.const undef)) 4) e fun b c=>a b c)) fun d e=>
 ag d false (
 RR (sOp (.index 9 (.const c) (.const (.int .i64 0))) 5) e fun e f=>
 RR (ao .eql 5 false true e (.int .u8 48)) f fun e f=>
 ag e true (
 RR (aq .len #[9] 3 [false] [c]) f fun c f=>
 RR (ao .gtr 3 false true c (.int .i64 1)) f fun c f=>
 ag c false (
 ag e true (
 RR (sOp (.pick (.const c) (.const (.bool true)) (.const b)) 4) f fun b c=>
 ag d false (
 RR (sOp (.pick (.const e) (.const b) (.const (.bool false))) 4) c fun b c=>
 RR (sOp (.pick (.const d) (.const (.bool true)) (.const b)) 4) c fun b c=>
 a b c) (
 RR (sOp (.pick (.const d) (.const (.bool true)) (.const undef)) 4) c fun b c=>
 a b c)) (
 ag d false (
 RR (sOp (.pick (.const e) (.const undef) (.const (.bool false))) 4) f fun b c=>
 RR (sOp (.pick (.const d) (.const (.bool true)) (.const b)) 4) c fun b c=>
 a b c) (
 RR (sOp (.pick (.const d) (.const (.bool true)) (.const undef)) 4) f fun b c=>
 a b c))) (
 ag e true (
 RR (sOp (.pick (.const c) (.const (.bool true)) (.const undef)) 4) f fun b c=>
 ag d false (
 RR (sOp (.pick (.const e) (.const b) (.const (.bool false))) 4) c fun b c=>
 RR (sOp (.pick (.const d) (.const (.bool true)) (.const b)) 4) c fun b c=>
 a b c) (
 RR (sOp (.pick (.const d) (.const (.bool true)) (.const undef)) 4) c fun b c=>
 a b c)) (
 ag d false (
 RR (sOp (.pick (.const e) (.const undef) (.const (.bool false))) 4) f fun b c=>
 RR (sOp (.pick (.const d) (.const (.bool true)) (.const b)) 4) c fun b c=>
 a b c) (
 RR (sOp (.pick (.const d) (.const (.bool true)) (.const undef)) 4) f fun b c=>
 a b c)))) (
 ag undef false (
 ag e true (
 RR (sOp (.pick (.const undef) (.const (.bool true)) (.const b)) 4) f fun b c=>
 ag d false (
 RR (sOp (.pick (.const e) (.const b) (.const (.bool false))) 4) c fun b c=>
 RR (sOp (.pick (.const d) (.const (.bool true)) (.const b)) 4) c fun b c=>
 a b c) (
 RR (sOp (.pick (.const d) (.const (.bool true)) (.const undef)) 4) c fun b c=>
 a b c)) (
 ag d false (
 RR (sOp (.pick (.const e) (.const undef) (.const (.bool false))) 4) f fun b c=>
 RR (sOp (.pick (.const d) (.const (.bool true)) (.const b)) 4) c fun b c=>
 a b c) (
 RR (sOp (.pick (.const d) (.const (.bool true)) (.const undef)) 4) f fun b c=>
 a b c))) (
 ag e true (
 RR (sOp (.pick (.const undef) (.const (.bool true)) (.const undef)) 4) f fun b c=>
 ag d false (
 RR (sOp (.pick (.const e) (.const b) (.const (.bool false))) 4) c fun b c=>
 RR (sOp (.pick (.const d) (.const (.bool true)) (.const b)) 4) c fun b c=>
 a b c) (
 RR (sOp (.pick (.const d) (.const (.bool true)) (.const undef)) 4) c fun b c=>
 a b c)) (
 ag d false (
 RR (sOp (.pick (.const e) (.const undef) (.const (.bool false))) 4) f fun b c=>
 RR (sOp (.pick (.const d) (.const (.bool true)) (.const b)) 4) c fun b c=>
 a b c) (
 RR (sOp (.pick (.const d) (.const (.bool true)) (.const undef)) 4) f fun b c=>
 a b c))))) (
 ag undef true (
 RR (aq .len #[9] 3 [false] [c]) e fun c e=>
 RR (ao .gtr 3 false true c (.int .i64 1)) e fun c e=>
 ag c false (
 ag undef true (
 RR (sOp (.pick (.const c) (.const (.bool true)) (.const b)) 4) e fun b c=>
 ag d false (
 RR (sOp (.pick (.const undef) (.const b) (.const (.bool false))) 4) c fun b c=>
 RR (sOp (.pick (.const d) (.const (.bool true)) (.const b)) 4) c fun b c=>
 a b c) (
 RR (sOp (.pick (.const d) (.const (.bool true)) (.const undef)) 4) c fun b c=>
 a b c)) (
 ag d false (
 RR (sOp (.pick (.const undef) (.const undef) (.const (.bool false))) 4) e fun b c=>
 RR (sOp (.pick (.const d) (.const (.bool true)) (.const b)) 4) c fun b c=>
 a b c) (
 RR (sOp (.pick (.const d) (.const (.bool true)) (.const undef)) 4) e fun b c=>
 a b c))) (
 ag undef true (
 RR (sOp (.pick (.const c) (.const (.bool true)) (.const undef)) 4) e fun b c=>
 ag d false (
 RR (sOp (.pick (.const undef) (.const b) (.const (.bool false))) 4) c fun b c=>
 RR (sOp (.pick (.const d) (.const (.bool true)) (.const b)) 4) c fun b c=>
 a b c) (
 RR (sOp (.pick (.const d) (.const (.bool true)) (.const undef)) 4) c fun b c=>
 a b c)) (
 ag d false (
 RR (sOp (.pick (.const undef) (.const undef) (.const (.bool false))) 4) e fun b c=>
 RR (sOp (.pick (.const d) (.const (.bool true)) (.const b)) 4) c fun b c=>
 a b c) (
 RR (sOp (.pick (.const d) (.const (.bool true)) (.const undef)) 4) e fun b c=>
 a b c)))) (
 ag undef false (
 ag undef true (
 RR (sOp (.pick (.const undef) (.const (.bool true)) (.const b)) 4) e fun b c=>
 ag d false (
 RR (sOp (.pick (.const undef) (.const b) (.const (.bool false))) 4) c fun b c=>
 RR (sOp (.pick (.const d) (.const (.bool true)) (.const b)) 4) c fun b c=>
 a b c) (
 RR (sOp (.pick (.const d) (.const (.bool true)) (.const undef)) 4) c fun b c=>
 a b c)) (
 ag d false (
 RR (sOp (.pick (.const undef) (.const undef) (.const (.bool false))) 4) e fun b c=>
 RR (sOp (.pick (.const d) (.const (.bool true)) (.const b)) 4) c fun b c=>
 a b c) (
 RR (sOp (.pick (.const d) (.const (.bool true)) (.const undef)) 4) e fun b c=>
 a b c))) (
 ag undef true (
 RR (sOp (.pick (.const undef) (.const (.bool true)) (.const undef)) 4) e fun b c=>
 ag d false (
 RR (sOp (.pick (.const undef) (.const b) (.const (.bool false))) 4) c fun b c=>
 RR (sOp (.pick (.const d) (.const (.bool true)) (.const b)) 4) c fun b c=>
 a b c) (
 RR (sOp (.pick (.const d) (.const (.bool true)) (.const undef)) 4) c fun b c=>
 a b c)) (
 ag d false (
 RR (sOp (.pick (.const undef) (.const undef) (.const (.bool false))) 4) e fun b c=>
 RR (sOp (.pick (.const d) (.const (.bool true)) (.const b)) 4) c fun b c=>
 a b c) (
 RR (sOp (.pick (.const d) (.const (.bool true)) (.const undef)) 4) e fun b c=>
 a b c)))))))/\
 ∀ d _ _ _ _ _ _ _ _ _ _ _ _ _ _ _ _ _ _ _ _:Value,∀ e:World,a d e->
 CondV d (
 R (.returned (.tuple #[(.int .i64 0),(.bool false)])) e) (
 (∃ (a:Value->Value->World->Prop) (d:Value->Value->World->Nat),a (.int .i64 0) (.int .i64 0) e/\
 ∀ e _ _ f _ _ _ _ _ _ _ _ _ _ _ _ _ _ _ _ _ _ _ _ _ _ _ _:Value,∀ g:World,a e f g->
 RR (aq .len #[9] 3 [false] [c]) g fun h i=>
 RR (ao .lss 3 false false e h) i fun h i=>
 CondV h (
 (∃ b:Value->World->Prop,(
 RR (sOp (.index 9 (.const c) (.const e)) 5) i fun a d=>
 RR (ao .lss 5 false true a (.int .u8 48)) d fun a d=>
 ag a false (
 RR (sOp (.index 9 (.const c) (.const e)) 5) d fun c d=>
 RR (ao .gtr 5 false true c (.int .u8 57)) d fun c d=>
 RR (sOp (.pick (.const a) (.const (.bool true)) (.const c)) 4) d fun a c=>
 b a c) (
 RR (sOp (.pick (.const a) (.const (.bool true)) (.const undef)) 4) d fun a c=>
 b a c))/\
 ∀ h _ _ _ _ _ _ _ _ _:Value,∀ i:World,b h i->
 CondV h (
 R (.returned (.tuple #[(.int .i64 0),(.bool false)])) i) (
 RR (ao .mul 3 false true f (.int .i64 10)) i fun b h=>
 RR (sOp (.index 9 (.const c) (.const e)) 5) h fun c h=>
 RR (ao .sub 5 false true c (.int .u8 48)) h fun c h=>
 RR (sOp (.convert 5 3 (.const c)) 3) h fun c h=>
 RR (ao .add 3 false false b c) h fun b c=>
 RR (ao .add 3 false true e (.int .i64 1)) c fun c h=>
 a c b h/\d c b h<d e f g))) (
 (∃ a:Value->World->Prop,(
 CondV b (
 RR (sOp (.unOp .neg 3 (.const f)) 3) i fun b c=>
 a b c) (
 a f i))/\
 ∀ b _ _ _:Value,∀ c:World,a b c->
 R (.returned (.tuple #[b,(.bool true)])) c)))))))
theorem th {p0:Value} {w:World} {R:Ending->World->Prop} (h:rv p0 w R):Calls Tryz.prog 173 #[p0] w R:=
  aN (.seq none .leaf (.seq (some [4]) .leaf (.seq (some [0]) .leaf (.seq none (.seq (some [38]) .leaf .leaf) (.seq none .leaf (.seq none (.seq none .leaf (.one (.loop [6,5] (.seq none .leaf (.seq none (.one (.seq none (.seq (some [54]) .leaf .leaf) .leaf)) .leaf))))) (.seq (some [5]) .leaf .leaf))))))) [p0] bh Tryz.func173 (by kernel_rfl) (by kernel_rfl) h


/- loop.example/prologserver/spec.l1Chain : function 174 -/
def oV (p0 p1:Value) (w:World) (R:Ending->World->Prop):Prop:=
 RR (sOp (.box 25 (.const p1)) 0) w fun a b=>
 RR (sOp (.alloc 25) 0) b fun b c=>
 RR (sOp (.load 25 (.const a)) 25) c fun a c=>
 RR (sOp (.alloc 25) 0) c fun c d=>
 RR (sOp (.store 25 (.const c) (.const a)) 0) d fun _ a=>
 RR (aq .len #[23] 3 [false] [p0]) a fun a d=>
 RR (ao .sub 3 false true a (.int .i64 1)) d fun a d=>
 (∃ (e:Value->World->Prop) (f:Value->World->Nat),e a d/\
 ∀ a _ _ d g h i j k l _ _:Value,∀ m:World,e a m->
 RR (ao .geq 3 false true a (.int .i64 0)) m fun n o=>
 CondV n (
 (∃ b:(Nat->Bool)->Value->Value->Value->Value->Value->Value->Value->World->Prop,b (fun _=>false) d g h i j k l { o with drawn:=o.drawn+1 }/\(
 (∀ a:Nat->Bool,a 0=false->∀ c d e f g h i j,b a c d e f g h i j->
 b (aw a 0) c d e f g h p0 j)/\
 (∀ c:Nat->Bool,c 1=false->∀ d e f g h i j k,b c d e f g h i j k->
 b (aw c 1) d e f g h a j k)/\
 (∀ a:Nat->Bool,a 2=false->a 0=true->a 1=true->∀ c d e f g h i j,b a c d e f g h i j->
 RR (sOp (.indexAddr 23 (.const i) (.const h)) 0) j fun g j=>
 b (aw a 2) c d e f g h i j)/\
 (∀ a:Nat->Bool,a 3=false->a 2=true->∀ c d e f g h i j,b a c d e f g h i j->
 RR (sOp (.load 25 (.const g)) 25) j fun f j=>
 b (aw a 3) c d e f g h i j)/\
 (∀ a:Nat->Bool,a 4=false->∀ d e f g h i j k,b a d e f g h i j k->
 RR (sOp (.load 25 (.const c)) 25) k fun c f=>
 b (aw a 4) d e c g h i j f)/\
 (∀ a:Nat->Bool,a 5=false->a 3=true->a 4=true->∀ c d e f g h i j,b a c d e f g h i j->
 RR (aW 23 2 [(0,f),(1,e)]) j fun d j=>
 b (aw a 5) c d e f g h i j)/\
 (∀ a:Nat->Bool,a 6=false->a 5=true->∀ c d e f g h i j,b a c d e f g h i j->
 RR (aH (.func (.func 78) #[] #[]) [(.string ⟨#[46]⟩),d]) j fun c j=>
 b (aw a 6) c d e f g h i j)/\
 (∀ a:Nat->Bool,a 7=false->a 6=true->a 6=true->a 0=true->a 1=true->a 2=true->a 3=true->a 4=true->a 5=true->a 6=true->∀ d e f g h i j k,b a d e f g h i j k->
 RR (sOp (.store 25 (.const c) (.const d)) 0) k fun _ c=>
 b (aw a 7) d e f g h i j c)/\
 True)/\
 ∀ c:Nat->Bool,c 7=true->c 6=true->c 5=true->c 4=true->c 3=true->c 2=true->c 1=true->c 0=true->∀ d g h i j k l n,b c d g h i j k l n->
 RR (ao .sub 3 false true a (.int .i64 1)) n fun b c=>
 e b c/\f b c<f a m)) (
 RR (sOp (.load 25 (.const c)) 25) o fun a c=>
 RR (sOp (.store 25 (.const b) (.const a)) 0) c fun _ a=>
 (a4 Tryz.prog 25 b a fun b=>R (.returned b) a)))
theorem r8 {p0 p1:Value} {w:World} {R:Ending->World->Prop} (h:oV p0 p1 w R):Calls Tryz.prog 174 #[p0,p1] w R:=
  aN (.seq none .leaf (.seq none .leaf (.seq none (.seq none .leaf (.one (.loop [6] .leaf))) .leaf))) [p0,p1] bh Tryz.func174 (by kernel_rfl) (by kernel_rfl) h


/- loop.example/prologserver/spec.l1Small : function 175 -/
def oU (p0 p1:Value) (w:World) (R:Ending->World->Prop):Prop:=
 RR (ao .geq 3 false true p1 (.int .i64 0)) w fun a b=>
 ((fun c:VW=>ag a true (
 RR (aq .len #[9] 3 [false] [p0]) b fun b d=>
 RR (ao .lss 3 false false p1 b) d fun b d=>
 RR (sOp (.pick (.const a) (.const b) (.const (.bool false))) 4) d fun a b=>c a b) (
 RR (sOp (.pick (.const a) (.const undef) (.const (.bool false))) 4) b fun a b=>c a b)) fun a b=>
 ((fun c:VW=>ag a true (
 RR (sOp (.index 9 (.const p0) (.const p1)) 5) b fun b d=>
 RR (ao .geq 5 false true b (.int .u8 97)) d fun b d=>
 RR (sOp (.pick (.const a) (.const b) (.const (.bool false))) 4) d fun a b=>c a b) (
 RR (sOp (.pick (.const a) (.const undef) (.const (.bool false))) 4) b fun a b=>c a b)) fun a b=>
 ag a true (
 RR (sOp (.index 9 (.const p0) (.const p1)) 5) b fun b c=>
 RR (ao .leq 5 false true b (.int .u8 122)) c fun b c=>
 RR (sOp (.pick (.const a) (.const b) (.const (.bool false))) 4) c fun a b=>
 R (.returned a) b) (
 RR (sOp (.pick (.const a) (.const undef) (.const (.bool false))) 4) b fun a b=>
 R (.returned a) b)))
theorem r3 {p0 p1:Value} {w:World} {R:Ending->World->Prop} (h:oU p0 p1 w R):Calls Tryz.prog 175 #[p0,p1] w R:=
  aN .leaf [p0,p1] bh Tryz.func175 (by kernel_rfl) (by kernel_rfl) h


/- loop.example/prologserver/spec.l1Signs : function 176 -/
def oK (w:World) (R:Ending->World->Prop):Prop:=
 RR (aW 67 15 [(0,(.string ⟨#[43]⟩)),(1,(.string ⟨#[45]⟩)),(2,(.string ⟨#[42]⟩)),(3,(.string ⟨#[47,47]⟩)),(4,(.string ⟨#[61]⟩)),(5,(.string ⟨#[92,61]⟩)),(6,(.string ⟨#[61,61]⟩)),(7,(.string ⟨#[60]⟩)),(8,(.string ⟨#[62]⟩)),(9,(.string ⟨#[61,60]⟩)),(10,(.string ⟨#[62,61]⟩)),(11,(.string ⟨#[61,58,61]⟩)),(12,(.string ⟨#[46]⟩)),(13,(.string ⟨#[91,93]⟩)),(14,(.string ⟨#[33]⟩))]) w fun a b=>
 R (.returned a) b
theorem rS {w:World} {R:Ending->World->Prop} (h:oK w R):Calls Tryz.prog 176 #[] w R:=
  aN .leaf [] bh Tryz.func176 (by kernel_rfl) (by kernel_rfl) h


/- loop.example/prologserver/spec.l1Letter : function 177 -/
def mL (p0:Value) (w:World) (R:Ending->World->Prop):Prop:=
 RR (sOp (.convert 3 5 (.const p0)) 5) w fun a b=>
 RR (ao .add 5 true false (.int .u8 65) a) b fun a b=>
 RR (aW 22 1 [(0,a)]) b fun a b=>
 RR (sOp (.convert 22 9 (.const a)) 9) b fun a b=>
 R (.returned a) b
theorem qt {p0:Value} {w:World} {R:Ending->World->Prop} (h:mL p0 w R):Calls Tryz.prog 177 #[p0] w R:=
  aN .leaf [p0] bh Tryz.func177 (by kernel_rfl) (by kernel_rfl) h


/- loop.example/prologserver/spec.l1Dec : function 178 -/
def uz (p0:Value) (w:World) (R:Ending->World->Prop):Prop:=
 RR (ao .lss 3 false true p0 (.int .i64 0)) w fun a b=>
 CondV a (
 RR (sOp (.unOp .neg 3 (.const p0)) 3) b fun a b=>
 RR (aH (.func (.func 190) #[] #[]) [a]) b fun a b=>
 RR (ao .add 9 true false (.string ⟨#[45]⟩) a) b fun a b=>
 R (.returned a) b) (
 RR (aH (.func (.func 190) #[] #[]) [p0]) b fun a b=>
 R (.returned a) b)
theorem vi {p0:Value} {w:World} {R:Ending->World->Prop} (h:uz p0 w R):Calls Tryz.prog 178 #[p0] w R:=
  aN .leaf [p0] bh Tryz.func178 (by kernel_rfl) (by kernel_rfl) h


/- loop.example/prologserver/spec.l1Pair : function 179 -/
def rx (p0:Value) (w:World) (R:Ending->World->Prop):Prop:=
 RR (sOp (.box 25 (.const p0)) 0) w fun a b=>
 RR (sOp (.fieldAddr 25 (.const a) 0) 0) b fun b c=>
 RR (sOp (.load 3 (.const b)) 3) c fun b c=>
 RR (ao .eql 3 false true b (.int .i64 3)) c fun b c=>
 ((fun d:VW=>ag b true (
 RR (sOp (.fieldAddr 25 (.const a) 2) 0) c fun a c=>
 RR (sOp (.load 9 (.const a)) 9) c fun a c=>
 RR (ao .eql 9 false true a (.string ⟨#[46]⟩)) c fun a c=>
 RR (sOp (.pick (.const b) (.const a) (.const (.bool false))) 4) c fun a b=>d a b) (
 RR (sOp (.pick (.const b) (.const undef) (.const (.bool false))) 4) c fun a b=>d a b)) fun b c=>
 ag b true (
 RR (sOp (.fieldAddr 25 (.const a) 3) 0) c fun a c=>
 RR (sOp (.load 23 (.const a)) 23) c fun a c=>
 RR (aq .len #[23] 3 [false] [a]) c fun a c=>
 RR (ao .eql 3 false true a (.int .i64 2)) c fun a c=>
 RR (sOp (.pick (.const b) (.const a) (.const (.bool false))) 4) c fun a b=>
 R (.returned a) b) (
 RR (sOp (.pick (.const b) (.const undef) (.const (.bool false))) 4) c fun a b=>
 R (.returned a) b))
theorem tB {p0:Value} {w:World} {R:Ending->World->Prop} (h:rx p0 w R):Calls Tryz.prog 179 #[p0] w R:=
  aN .leaf [p0] bh Tryz.func179 (by kernel_rfl) (by kernel_rfl) h


/- loop.example/prologserver/spec.NameValid : function 181 -/
def lB (p0:Value) (w:World) (R:Ending->World->Prop):Prop:=
 RR (aH (.func (.func 162) #[] #[]) [p0]) w fun a b=>
 ag a false (
 RR (aH (.func (.func 176) #[] #[]) []) b fun b c=>
 RR (aH (.func (.func 192) #[] #[]) [b,p0]) c fun b c=>
 RR (sOp (.pick (.const a) (.const (.bool true)) (.const b)) 4) c fun a b=>
 R (.returned a) b) (
 RR (sOp (.pick (.const a) (.const (.bool true)) (.const undef)) 4) b fun a b=>
 R (.returned a) b)
theorem ob {p0:Value} {w:World} {R:Ending->World->Prop} (h:lB p0 w R):Calls Tryz.prog 181 #[p0] w R:=
  aN .leaf [p0] bh Tryz.func181 (by kernel_rfl) (by kernel_rfl) h


/- loop.example/prologserver/spec.l4Cut : function 184 -/
def tx (p0:Value) (w:World) (R:Ending->World->Prop):Prop:=
 RR (sOp (.box 25 (.const p0)) 0) w fun a b=>
 RR (sOp (.fieldAddr 25 (.const a) 0) 0) b fun b c=>
 RR (sOp (.load 3 (.const b)) 3) c fun b c=>
 RR (ao .eql 3 false true b (.int .i64 3)) c fun b c=>
 ((fun d:VW=>ag b true (
 RR (sOp (.fieldAddr 25 (.const a) 2) 0) c fun a c=>
 RR (sOp (.load 9 (.const a)) 9) c fun a c=>
 RR (ao .eql 9 false true a (.string ⟨#[33]⟩)) c fun a c=>
 RR (sOp (.pick (.const b) (.const a) (.const (.bool false))) 4) c fun a b=>d a b) (
 RR (sOp (.pick (.const b) (.const undef) (.const (.bool false))) 4) c fun a b=>d a b)) fun b c=>
 ag b true (
 RR (sOp (.fieldAddr 25 (.const a) 3) 0) c fun a c=>
 RR (sOp (.load 23 (.const a)) 23) c fun a c=>
 RR (aq .len #[23] 3 [false] [a]) c fun a c=>
 RR (ao .eql 3 false true a (.int .i64 0)) c fun a c=>
 RR (sOp (.pick (.const b) (.const a) (.const (.bool false))) 4) c fun a b=>
 R (.returned a) b) (
 RR (sOp (.pick (.const b) (.const undef) (.const (.bool false))) 4) c fun a b=>
 R (.returned a) b))
theorem v7 {p0:Value} {w:World} {R:Ending->World->Prop} (h:tx p0 w R):Calls Tryz.prog 184 #[p0] w R:=
  aN .leaf [p0] bh Tryz.func184 (by kernel_rfl) (by kernel_rfl) h


/- loop.example/prologserver/spec.l2Items : function 187 -/
def ou (p0 p1 p2:Value) (w:World) (R:Ending->World->Prop):Prop:=
 RR (sOp (.alloc 25) 0) w fun a b=>
 RR (aH (.func (.func 188) #[] #[]) [p0,p1,p2,(.int .u8 93),(.int .u8 124)]) b fun b c=>
 RR (sOp (.extract (.const b) 0) 23) c fun c d=>
 RR (sOp (.extract (.const b) 1) 3) d fun b d=>
 RR (ao .lss 3 false true b (.int .i64 0)) d fun d e=>
 CondV d (
 RR (cK 25 []) e fun c d=>
 RR (sOp (.store 25 (.const a) (.const c)) 0) d fun _ c=>
 (a4 Tryz.prog 25 a c fun a=>R (.returned (.tuple #[a,b])) c)) (
 RR (aH (.func (.func 147) #[] #[]) [p0,b,(.int .u8 93)]) e fun d e=>
 CondV d (
 RR (aH (.func (.func 78) #[] #[]) [(.string ⟨#[91,93]⟩),(Value.slice none 0 0)]) e fun d e=>
 RR (aH (.func (.func 174) #[] #[]) [c,d]) e fun c d=>
 RR (ao .add 3 false true b (.int .i64 1)) d fun b d=>
 RR (sOp (.store 25 (.const a) (.const c)) 0) d fun _ c=>
 (a4 Tryz.prog 25 a c fun a=>R (.returned (.tuple #[a,b])) c)) (
 RR (ao .add 3 false true b (.int .i64 1)) e fun b d=>
 RR (aH (.func (.func 146) #[] #[]) [p0,b,p2,(.int .i64 3)]) d fun b d=>
 RR (sOp (.extract (.const b) 0) 25) d fun d e=>
 RR (sOp (.extract (.const b) 1) 3) e fun b e=>
 RR (sOp (.alloc 25) 0) e fun e f=>
 RR (sOp (.store 25 (.const e) (.const d)) 0) f fun _ d=>
 RR (ao .lss 3 false true b (.int .i64 0)) d fun d f=>
 CondV d (
 RR (cK 25 []) f fun c d=>
 RR (sOp (.store 25 (.const a) (.const c)) 0) d fun _ c=>
 (a4 Tryz.prog 25 a c fun a=>R (.returned (.tuple #[a,b])) c)) (
 RR (aH (.func (.func 147) #[] #[]) [p0,b,(.int .u8 93)]) f fun d f=>
 RR (sOp (.unOp .not 4 (.const d)) 4) f fun d f=>
 CondV d (
 RR (aH (.func (.func 186) #[] #[]) [b]) f fun b c=>
 RR (sOp (.extract (.const b) 0) 25) c fun c d=>
 RR (sOp (.extract (.const b) 1) 3) d fun b d=>
 RR (sOp (.store 25 (.const a) (.const c)) 0) d fun _ c=>
 (a4 Tryz.prog 25 a c fun a=>R (.returned (.tuple #[a,b])) c)) (
 RR (sOp (.load 25 (.const e)) 25) f fun d e=>
 RR (aH (.func (.func 174) #[] #[]) [c,d]) e fun c d=>
 RR (ao .add 3 false true b (.int .i64 1)) d fun b d=>
 RR (sOp (.store 25 (.const a) (.const c)) 0) d fun _ c=>
 (a4 Tryz.prog 25 a c fun a=>R (.returned (.tuple #[a,b])) c)))))
theorem sr {p0 p1 p2:Value} {w:World} {R:Ending->World->Prop} (h:ou p0 p1 p2 w R):Calls Tryz.prog 187 #[p0,p1,p2] w R:=
  aN .leaf [p0,p1,p2] bh Tryz.func187 (by kernel_rfl) (by kernel_rfl) h


/- loop.example/prologserver/spec.l2Terms : function 188 -/
def pz (p0 p1 p2 p3 p4:Value) (w:World) (R:Ending->World->Prop):Prop:=
 RR (aW 23 0 []) w fun a b=>
 (∃ (c:Value->Value->World->Prop) (d:Value->Value->World->Nat),c p1 a b/\
 ∀ a _ _ _ _ _ _ _ _ _ _ _ _ _ _ _ _ _ _ _ _ b _ _ _ _ _ _ _ _ _ _ _ _ _ _ _ _ _ _:Value,∀ e:World,c a b e->
 RR (aH (.func (.func 146) #[] #[]) [p0,a,p2,(.int .i64 3)]) e fun f g=>
 RR (sOp (.extract (.const f) 0) 25) g fun g h=>
 RR (sOp (.extract (.const f) 1) 3) h fun f h=>
 RR (sOp (.alloc 25) 0) h fun h i=>
 RR (sOp (.store 25 (.const h) (.const g)) 0) i fun _ g=>
 RR (ao .lss 3 false true f (.int .i64 0)) g fun g i=>
 CondV g (
 R (.returned (.tuple #[(Value.slice none 0 0),f])) i) (
 RR (sOp (.load 25 (.const h)) 25) i fun g h=>
 RR (aW 23 1 [(0,g)]) h fun g h=>
 RR (aq .append #[23,23] 23 [false,false] [b,g]) h fun g h=>
 (∃ i:Value->World->Prop,(
 RR (aH (.func (.func 147) #[] #[]) [p0,f,p3]) h fun a b=>
 ag a false (
 RR (aH (.func (.func 147) #[] #[]) [p0,f,p4]) b fun b c=>
 RR (sOp (.pick (.const a) (.const (.bool true)) (.const b)) 4) c fun a b=>
 i a b) (
 RR (sOp (.pick (.const a) (.const (.bool true)) (.const undef)) 4) b fun a b=>
 i a b))/\
 ∀ h _ _ _ _ _ _ _ _ _:Value,∀ j:World,i h j->
 CondV h (
 R (.returned (.tuple #[g,f])) j) (
 RR (aH (.func (.func 147) #[] #[]) [p0,f,(.int .u8 44)]) j fun h i=>
 RR (sOp (.unOp .not 4 (.const h)) 4) i fun h i=>
 CondV h (
 RR (ao .sub 3 true false (.int .i64 (-1)) f) i fun a b=>
 R (.returned (.tuple #[(Value.slice none 0 0),a])) b) (
 RR (ao .add 3 false true f (.int .i64 1)) i fun f h=>
 c f g h/\d f g h<d a b e)))))
theorem se {p0 p1 p2 p3 p4:Value} {w:World} {R:Ending->World->Prop} (h:pz p0 p1 p2 p3 p4 w R):Calls Tryz.prog 188 #[p0,p1,p2,p3,p4] w R:=
  aN (.seq none .leaf (.seq none .leaf (.one (.loop [1,12] (.one (.seq none .leaf (.seq none .leaf (.seq none .leaf (.seq none (.seq (some [39]) .leaf .leaf) .leaf))))))))) [p0,p1,p2,p3,p4] bh Tryz.func188 (by kernel_rfl) (by kernel_rfl) h


/- loop.example/prologserver/spec.l2Text : function 189 -/
def rF (p0:Value) (w:World) (R:Ending->World->Prop):Prop:=
 RR (sOp (.box 25 (.const p0)) 0) w fun a b=>
 RR (sOp (.load 25 (.const a)) 25) b fun b c=>
 RR (aH (.func (.func 179) #[] #[]) [b]) c fun b c=>
 CondV b (
 RR (sOp (.load 25 (.const a)) 25) c fun a b=>
 RR (aH (.func (.func 194) #[] #[]) [a]) b fun a b=>
 R (.returned a) b) (
 RR (sOp (.load 25 (.const a)) 25) c fun b c=>
 RR (aH (.func (.func 195) #[] #[]) [b]) c fun b c=>
 CondV b (
 RR (sOp (.fieldAddr 25 (.const a) 2) 0) c fun b c=>
 RR (sOp (.load 9 (.const b)) 9) c fun b c=>
 RR (aH (.func (.func 164) #[] #[]) [b]) c fun b c=>
 (∃ d:Value->World->Prop,(
 RR (ao .eql 3 false true b (.int .i64 3)) c fun a c=>
 CondV a (
 d (.int .i64 2) c) (
 d b c))/\
 ∀ c _ _:Value,∀ e:World,d c e->
 (∃ d:(Nat->Bool)->Value->Value->Value->Value->Value->Value->Value->Value->Value->Value->Value->Value->Value->Value->Value->Value->Value->Value->Value->World->Prop,d (fun _=>false) (.string ⟨#[]⟩) undef undef undef undef undef undef undef undef undef undef undef undef undef undef undef undef undef undef { e with drawn:=e.drawn+1 }/\(
 (∀ b:Nat->Bool,b 0=false->∀ c e f g h i j k l m n o p q r s t u v x,d b c e f g h i j k l m n o p q r s t u v x->
 RR (sOp (.fieldAddr 25 (.const a) 3) 0) x fun a v=>
 d (aw b 0) c e f g h i j k l m n o p q r s t u a v)/\
 (∀ a:Nat->Bool,a 1=false->a 0=true->∀ b c e f g h i j k l m n o p q r s t u v,d a b c e f g h i j k l m n o p q r s t u v->
 RR (sOp (.load 23 (.const u)) 23) v fun t v=>
 d (aw a 1) b c e f g h i j k l m n o p q r s t u v)/\
 (∀ a:Nat->Bool,a 2=false->a 1=true->∀ b c e f g h i j k l m n o p q r s t u v,d a b c e f g h i j k l m n o p q r s t u v->
 RR (sOp (.indexAddr 23 (.const t) (.const (.int .i64 0))) 0) v fun s v=>
 d (aw a 2) b c e f g h i j k l m n o p q r s t u v)/\
 (∀ a:Nat->Bool,a 3=false->a 2=true->∀ b c e f g h i j k l m n o p q r s t u v,d a b c e f g h i j k l m n o p q r s t u v->
 RR (sOp (.load 25 (.const s)) 25) v fun r v=>
 d (aw a 3) b c e f g h i j k l m n o p q r s t u v)/\
 (∀ a:Nat->Bool,a 4=false->∀ b e f g h i j k l m n o p q r s t u v x,d a b e f g h i j k l m n o p q r s t u v x->
 d (aw a 4) b e f g h i j k l m n o p q c s t u v x)/\
 (∀ a:Nat->Bool,a 5=false->a 3=true->a 4=true->∀ b c e f g h i j k l m n o p q r s t u v,d a b c e f g h i j k l m n o p q r s t u v->
 RR (aH (.func (.func 196) #[] #[]) [r,q]) v fun p v=>
 d (aw a 5) b c e f g h i j k l m n o p q r s t u v)/\
 (∀ b:Nat->Bool,b 6=false->∀ c e f g h i j k l m n o p q r s t u v x,d b c e f g h i j k l m n o p q r s t u v x->
 RR (sOp (.fieldAddr 25 (.const a) 2) 0) x fun a p=>
 d (aw b 6) c e f g h i j k l m n o a q r s t u v p)/\
 (∀ a:Nat->Bool,a 7=false->a 6=true->∀ b c e f g h i j k l m n o p q r s t u v,d a b c e f g h i j k l m n o p q r s t u v->
 RR (sOp (.load 9 (.const o)) 9) v fun n v=>
 d (aw a 7) b c e f g h i j k l m n o p q r s t u v)/\
 (∀ a:Nat->Bool,a 8=false->a 7=true->a 5=true->∀ b c e f g h i j k l m n o p q r s t u v,d a b c e f g h i j k l m n o p q r s t u v->
 RR (aH (.func (.func 197) #[] #[]) [n]) v fun m v=>
 d (aw a 8) b c e f g h i j k l m n o p q r s t u v)/\
 (∀ a:Nat->Bool,a 9=false->a 5=true->a 8=true->∀ b c e f g h i j k l m n o p q r s t u v,d a b c e f g h i j k l m n o p q r s t u v->
 RR (ao .add 9 false false p m) v fun l v=>
 d (aw a 9) b c e f g h i j k l m n o p q r s t u v)/\
 (∀ b:Nat->Bool,b 10=false->∀ c e f g h i j k l m n o p q r s t u v x,d b c e f g h i j k l m n o p q r s t u v x->
 RR (sOp (.fieldAddr 25 (.const a) 3) 0) x fun a l=>
 d (aw b 10) c e f g h i j k a m n o p q r s t u v l)/\
 (∀ a:Nat->Bool,a 11=false->a 10=true->∀ b c e f g h i j k l m n o p q r s t u v,d a b c e f g h i j k l m n o p q r s t u v->
 RR (sOp (.load 23 (.const k)) 23) v fun j v=>
 d (aw a 11) b c e f g h i j k l m n o p q r s t u v)/\
 (∀ a:Nat->Bool,a 12=false->a 11=true->∀ b c e f g h i j k l m n o p q r s t u v,d a b c e f g h i j k l m n o p q r s t u v->
 RR (sOp (.indexAddr 23 (.const j) (.const (.int .i64 1))) 0) v fun i v=>
 d (aw a 12) b c e f g h i j k l m n o p q r s t u v)/\
 (∀ a:Nat->Bool,a 13=false->a 12=true->∀ b c e f g h i j k l m n o p q r s t u v,d a b c e f g h i j k l m n o p q r s t u v->
 RR (sOp (.load 25 (.const i)) 25) v fun h v=>
 d (aw a 13) b c e f g h i j k l m n o p q r s t u v)/\
 (∀ a:Nat->Bool,a 14=false->∀ c e f g h i j k l m n o p q r s t u v x,d a c e f g h i j k l m n o p q r s t u v x->
 d (aw a 14) c e f g b i j k l m n o p q r s t u v x)/\
 (∀ a:Nat->Bool,a 15=false->a 14=true->∀ b c e f g h i j k l m n o p q r s t u v,d a b c e f g h i j k l m n o p q r s t u v->
 RR (ao .sub 3 false true g (.int .i64 1)) v fun f v=>
 d (aw a 15) b c e f g h i j k l m n o p q r s t u v)/\
 (∀ a:Nat->Bool,a 16=false->a 13=true->a 15=true->a 8=true->∀ b c e f g h i j k l m n o p q r s t u v,d a b c e f g h i j k l m n o p q r s t u v->
 RR (aH (.func (.func 198) #[] #[]) [h,f]) v fun e v=>
 d (aw a 16) b c e f g h i j k l m n o p q r s t u v)/\
 (∀ a:Nat->Bool,a 17=false->a 9=true->a 16=true->∀ b c e f g h i j k l m n o p q r s t u v,d a b c e f g h i j k l m n o p q r s t u v->
 RR (ao .add 9 false false l e) v fun c v=>
 d (aw a 17) b c e f g h i j k l m n o p q r s t u v)/\
 (∀ a:Nat->Bool,a 18=false->a 17=true->a 16=true->a 0=true->a 1=true->a 2=true->a 3=true->a 4=true->a 5=true->a 6=true->a 7=true->a 8=true->a 9=true->a 10=true->a 11=true->a 12=true->a 13=true->a 14=true->a 15=true->a 16=true->a 17=true->∀ b c e f g h i j k l m n o p q r s t u v,d a b c e f g h i j k l m n o p q r s t u v->
 d (aw a 18) c c e f g h i j k l m n o p q r s t u v)/\
 True)/\
 ∀ a:Nat->Bool,a 18=true->a 17=true->a 16=true->a 15=true->a 14=true->a 13=true->a 12=true->a 11=true->a 10=true->a 9=true->a 8=true->a 7=true->a 6=true->a 5=true->a 4=true->a 3=true->a 2=true->a 1=true->a 0=true->∀ b c e f g h i j k l m n o p q r s t u v,d a b c e f g h i j k l m n o p q r s t u v->
 R (.returned b) v))) (
 (∃ b:Value->World->Prop,(
 RR (sOp (.fieldAddr 25 (.const a) 0) 0) c fun c d=>
 RR (sOp (.load 3 (.const c)) 3) d fun c d=>
 RR (ao .eql 3 false true c (.int .i64 3)) d fun c d=>
 ag c true (
 RR (sOp (.fieldAddr 25 (.const a) 3) 0) d fun a d=>
 RR (sOp (.load 23 (.const a)) 23) d fun a d=>
 RR (aq .len #[23] 3 [false] [a]) d fun a d=>
 RR (ao .gtr 3 false true a (.int .i64 0)) d fun a d=>
 RR (sOp (.pick (.const c) (.const a) (.const (.bool false))) 4) d fun a c=>
 b a c) (
 RR (sOp (.pick (.const c) (.const undef) (.const (.bool false))) 4) d fun a c=>
 b a c))/\
 ∀ c _ _ _ _ _ _ _ _ _:Value,∀ d:World,b c d->
 CondV c (
 (∃ b:(Nat->Bool)->Value->Value->Value->Value->Value->Value->Value->Value->Value->World->Prop,b (fun _=>false) (.string ⟨#[]⟩) undef undef undef undef undef undef undef undef { d with drawn:=d.drawn+1 }/\(
 (∀ c:Nat->Bool,c 0=false->∀ d e f g h i j k l m,b c d e f g h i j k l m->
 RR (sOp (.fieldAddr 25 (.const a) 2) 0) m fun a l=>
 b (aw c 0) d e f g h i j k a l)/\
 (∀ a:Nat->Bool,a 1=false->a 0=true->∀ c d e f g h i j k l,b a c d e f g h i j k l->
 RR (sOp (.load 9 (.const k)) 9) l fun j l=>
 b (aw a 1) c d e f g h i j k l)/\
 (∀ a:Nat->Bool,a 2=false->a 1=true->∀ c d e f g h i j k l,b a c d e f g h i j k l->
 RR (ao .add 9 false true j (.string ⟨#[40]⟩)) l fun i l=>
 b (aw a 2) c d e f g h i j k l)/\
 (∀ c:Nat->Bool,c 3=false->∀ d e f g h i j k l m,b c d e f g h i j k l m->
 RR (sOp (.fieldAddr 25 (.const a) 3) 0) m fun a i=>
 b (aw c 3) d e f g h a j k l i)/\
 (∀ a:Nat->Bool,a 4=false->a 3=true->∀ c d e f g h i j k l,b a c d e f g h i j k l->
 RR (sOp (.load 23 (.const h)) 23) l fun g l=>
 b (aw a 4) c d e f g h i j k l)/\
 (∀ a:Nat->Bool,a 5=false->a 4=true->∀ c d e f g h i j k l,b a c d e f g h i j k l->
 RR (aH (.func (.func 199) #[] #[]) [g]) l fun f l=>
 b (aw a 5) c d e f g h i j k l)/\
 (∀ a:Nat->Bool,a 6=false->a 2=true->a 5=true->∀ c d e f g h i j k l,b a c d e f g h i j k l->
 RR (ao .add 9 false false i f) l fun e l=>
 b (aw a 6) c d e f g h i j k l)/\
 (∀ a:Nat->Bool,a 7=false->a 6=true->∀ c d e f g h i j k l,b a c d e f g h i j k l->
 RR (ao .add 9 false true e (.string ⟨#[41]⟩)) l fun d l=>
 b (aw a 7) c d e f g h i j k l)/\
 (∀ a:Nat->Bool,a 8=false->a 7=true->a 5=true->a 0=true->a 1=true->a 2=true->a 3=true->a 4=true->a 5=true->a 6=true->a 7=true->∀ c d e f g h i j k l,b a c d e f g h i j k l->
 b (aw a 8) d d e f g h i j k l)/\
 True)/\
 ∀ a:Nat->Bool,a 8=true->a 7=true->a 6=true->a 5=true->a 4=true->a 3=true->a 2=true->a 1=true->a 0=true->∀ c d e f g h i j k l,b a c d e f g h i j k l->
 R (.returned c) l)) (
 RR (sOp (.load 25 (.const a)) 25) d fun a b=>
 RR (aH (.func (.func 156) #[] #[]) [a]) b fun a b=>
 R (.returned a) b))))
theorem tC {p0:Value} {w:World} {R:Ending->World->Prop} (h:rF p0 w R):Calls Tryz.prog 189 #[p0] w R:=
  aN (.seq none .leaf (.seq none (.one (.seq none .leaf (.two .leaf (.seq none .leaf (.two (.seq none .leaf (.seq none .leaf (.seq (some [4]) .leaf .leaf))) (.seq (some [37]) .leaf .leaf)))))) .leaf)) [p0] bh Tryz.func189 (by kernel_rfl) (by kernel_rfl) h


/- loop.example/prologserver/spec.l18Dec : function 190 -/
def rh (p0:Value) (w:World) (R:Ending->World->Prop):Prop:=
 RR (ao .lss 3 false true p0 (.int .i64 (-9223372036854775807))) w fun a b=>
 CondV a (
 R (.returned (.string ⟨#[45,57,50,50,51,51,55,50,48,51,54,56,53,52,55,55,53,56,48,56]⟩)) b) (
 RR (ao .lss 3 false true p0 (.int .i64 0)) b fun a b=>
 CondV a (
 RR (sOp (.unOp .neg 3 (.const p0)) 3) b fun a b=>
 RR (aH (.func (.func 190) #[] #[]) [a]) b fun a b=>
 RR (ao .add 9 true false (.string ⟨#[45]⟩) a) b fun a b=>
 R (.returned a) b) (
 (∃ (a:Value->Value->World->Prop) (c:Value->Value->World->Nat),a p0 (.string ⟨#[]⟩) b/\
 ∀ b _ _ d _ _ _ _ _ _ _ _ _ _:Value,∀ e:World,a b d e->
 RR (ao .gtr 3 false true b (.int .i64 9)) e fun f g=>
 CondV f (
 RR (ao .rem 3 false true b (.int .i64 10)) g fun f g=>
 RR (ao .add 3 true false (.int .i64 48) f) g fun f g=>
 RR (sOp (.convert 3 5 (.const f)) 5) g fun f g=>
 RR (aW 22 1 [(0,f)]) g fun f g=>
 RR (sOp (.convert 22 9 (.const f)) 9) g fun f g=>
 RR (ao .add 9 false false f d) g fun f g=>
 RR (ao .quo 3 false true b (.int .i64 10)) g fun g h=>
 a g f h/\c g f h<c b d e) (
 RR (ao .add 3 true false (.int .i64 48) b) g fun a b=>
 RR (sOp (.convert 3 5 (.const a)) 5) b fun a b=>
 RR (aW 22 1 [(0,a)]) b fun a b=>
 RR (sOp (.convert 22 9 (.const a)) 9) b fun a b=>
 RR (ao .add 9 false false a d) b fun a b=>
 R (.returned a) b))))
theorem sQ {p0:Value} {w:World} {R:Ending->World->Prop} (h:rh p0 w R):Calls Tryz.prog 190 #[p0] w R:=
  aN (.seq none .leaf (.seq none .leaf (.seq none .leaf (.seq none .leaf (.seq none (.one (.loop [0,3] .leaf)) .leaf))))) [p0] bh Tryz.func190 (by kernel_rfl) (by kernel_rfl) h


/- loop.example/prologserver/spec.l1Nil : function 191 -/
def te (p0:Value) (w:World) (R:Ending->World->Prop):Prop:=
 RR (sOp (.box 25 (.const p0)) 0) w fun a b=>
 RR (sOp (.fieldAddr 25 (.const a) 0) 0) b fun b c=>
 RR (sOp (.load 3 (.const b)) 3) c fun b c=>
 RR (ao .eql 3 false true b (.int .i64 3)) c fun b c=>
 ((fun d:VW=>ag b true (
 RR (sOp (.fieldAddr 25 (.const a) 2) 0) c fun a c=>
 RR (sOp (.load 9 (.const a)) 9) c fun a c=>
 RR (ao .eql 9 false true a (.string ⟨#[91,93]⟩)) c fun a c=>
 RR (sOp (.pick (.const b) (.const a) (.const (.bool false))) 4) c fun a b=>d a b) (
 RR (sOp (.pick (.const b) (.const undef) (.const (.bool false))) 4) c fun a b=>d a b)) fun b c=>
 ag b true (
 RR (sOp (.fieldAddr 25 (.const a) 3) 0) c fun a c=>
 RR (sOp (.load 23 (.const a)) 23) c fun a c=>
 RR (aq .len #[23] 3 [false] [a]) c fun a c=>
 RR (ao .eql 3 false true a (.int .i64 0)) c fun a c=>
 RR (sOp (.pick (.const b) (.const a) (.const (.bool false))) 4) c fun a b=>
 R (.returned a) b) (
 RR (sOp (.pick (.const b) (.const undef) (.const (.bool false))) 4) c fun a b=>
 R (.returned a) b))
theorem vJ {p0:Value} {w:World} {R:Ending->World->Prop} (h:te p0 w R):Calls Tryz.prog 191 #[p0] w R:=
  aN .leaf [p0] bh Tryz.func191 (by kernel_rfl) (by kernel_rfl) h


/- loop.example/prologserver/spec.l1Has : function 192 -/
def tq (p0 p1:Value) (w:World) (R:Ending->World->Prop):Prop:=
 (∃ (a:Value->World->Prop) (b:Value->World->Nat),a (.int .i64 0) w/\
 ∀ c _ _ _ _ _ _ _ _ _ _ _ _ _:Value,∀ d:World,a c d->
 RR (aq .len #[67] 3 [false] [p0]) d fun e f=>
 RR (ao .lss 3 false false c e) f fun e f=>
 CondV e (
 RR (sOp (.indexAddr 67 (.const p0) (.const c)) 0) f fun e f=>
 RR (sOp (.load 9 (.const e)) 9) f fun e f=>
 RR (ao .eql 9 false false e p1) f fun e f=>
 CondV e (
 R (.returned (.bool true)) f) (
 RR (ao .add 3 false true c (.int .i64 1)) f fun e f=>
 a e f/\b e f<b c d)) (
 R (.returned (.bool false)) f))
theorem vX {p0 p1:Value} {w:World} {R:Ending->World->Prop} (h:tq p0 p1 w R):Calls Tryz.prog 192 #[p0,p1] w R:=
  aN (.seq none .leaf (.seq none (.seq none .leaf (.one (.loop [5] .leaf))) .leaf)) [p0,p1] bh Tryz.func192 (by kernel_rfl) (by kernel_rfl) h


/- loop.example/prologserver/spec.l2List : function 194 -/
def qH (p0:Value) (w:World) (R:Ending->World->Prop):Prop:=
 RR (sOp (.box 25 (.const p0)) 0) w fun a b=>
 RR (aW 23 0 []) b fun b c=>
 (∃ (d:Value->World->Prop) (e:Value->World->Nat),d b c/\
 ∀ _ _ _ _ b _ _ _ _ _ _ _ _ _:Value,∀ c:World,d b c->
 RR (sOp (.load 25 (.const a)) 25) c fun f g=>
 RR (aH (.func (.func 179) #[] #[]) [f]) g fun f g=>
 CondV f (
 RR (sOp (.fieldAddr 25 (.const a) 3) 0) g fun f g=>
 RR (sOp (.load 23 (.const f)) 23) g fun f g=>
 RR (sOp (.indexAddr 23 (.const f) (.const (.int .i64 0))) 0) g fun f g=>
 RR (sOp (.load 25 (.const f)) 25) g fun f g=>
 RR (aW 23 1 [(0,f)]) g fun f g=>
 RR (aq .append #[23,23] 23 [false,false] [b,f]) g fun f g=>
 RR (sOp (.fieldAddr 25 (.const a) 3) 0) g fun g h=>
 RR (sOp (.load 23 (.const g)) 23) h fun g h=>
 RR (sOp (.indexAddr 23 (.const g) (.const (.int .i64 1))) 0) h fun g h=>
 RR (sOp (.load 25 (.const g)) 25) h fun g h=>
 RR (sOp (.store 25 (.const a) (.const g)) 0) h fun _ a=>
 d f a/\e f a<e b c) (
 RR (sOp (.load 25 (.const a)) 25) g fun c d=>
 RR (aH (.func (.func 191) #[] #[]) [c]) d fun c d=>
 CondV c (
 RR (aH (.func (.func 199) #[] #[]) [b]) d fun a b=>
 RR (ao .add 9 true false (.string ⟨#[91]⟩) a) b fun a b=>
 RR (ao .add 9 false true a (.string ⟨#[93]⟩)) b fun a b=>
 R (.returned a) b) (
 (∃ c:(Nat->Bool)->Value->Value->Value->Value->Value->Value->Value->Value->Value->World->Prop,c (fun _=>false) (.string ⟨#[]⟩) undef undef undef undef undef undef undef undef { d with drawn:=d.drawn+1 }/\(
 (∀ a:Nat->Bool,a 0=false->∀ d e f g h i j k l m,c a d e f g h i j k l m->
 c (aw a 0) d e f g h i j k b m)/\
 (∀ a:Nat->Bool,a 1=false->a 0=true->∀ b d e f g h i j k l,c a b d e f g h i j k l->
 RR (aH (.func (.func 199) #[] #[]) [k]) l fun j l=>
 c (aw a 1) b d e f g h i j k l)/\
 (∀ a:Nat->Bool,a 2=false->a 1=true->∀ b d e f g h i j k l,c a b d e f g h i j k l->
 RR (ao .add 9 true false (.string ⟨#[91]⟩) j) l fun i l=>
 c (aw a 2) b d e f g h i j k l)/\
 (∀ a:Nat->Bool,a 3=false->a 2=true->∀ b d e f g h i j k l,c a b d e f g h i j k l->
 RR (ao .add 9 false true i (.string ⟨#[124]⟩)) l fun h l=>
 c (aw a 3) b d e f g h i j k l)/\
 (∀ b:Nat->Bool,b 4=false->∀ d e f g h i j k l m,c b d e f g h i j k l m->
 RR (sOp (.load 25 (.const a)) 25) m fun a h=>
 c (aw b 4) d e f g a i j k l h)/\
 (∀ a:Nat->Bool,a 5=false->a 4=true->a 1=true->∀ b d e f g h i j k l,c a b d e f g h i j k l->
 RR (aH (.func (.func 189) #[] #[]) [g]) l fun f l=>
 c (aw a 5) b d e f g h i j k l)/\
 (∀ a:Nat->Bool,a 6=false->a 3=true->a 5=true->∀ b d e f g h i j k l,c a b d e f g h i j k l->
 RR (ao .add 9 false false h f) l fun e l=>
 c (aw a 6) b d e f g h i j k l)/\
 (∀ a:Nat->Bool,a 7=false->a 6=true->∀ b d e f g h i j k l,c a b d e f g h i j k l->
 RR (ao .add 9 false true e (.string ⟨#[93]⟩)) l fun d l=>
 c (aw a 7) b d e f g h i j k l)/\
 (∀ a:Nat->Bool,a 8=false->a 7=true->a 5=true->a 0=true->a 1=true->a 2=true->a 3=true->a 4=true->a 5=true->a 6=true->a 7=true->∀ b d e f g h i j k l,c a b d e f g h i j k l->
 c (aw a 8) d d e f g h i j k l)/\
 True)/\
 ∀ a:Nat->Bool,a 8=true->a 7=true->a 6=true->a 5=true->a 4=true->a 3=true->a 2=true->a 1=true->a 0=true->∀ b d e f g h i j k l,c a b d e f g h i j k l->
 R (.returned b) l))))
theorem tl {p0:Value} {w:World} {R:Ending->World->Prop} (h:qH p0 w R):Calls Tryz.prog 194 #[p0] w R:=
  aN (.seq none .leaf (.seq none .leaf (.seq none (.one (.loop [3] .leaf)) .leaf))) [p0] bh Tryz.func194 (by kernel_rfl) (by kernel_rfl) h


/- loop.example/prologserver/spec.l2Infix : function 195 -/
def n5 (p0:Value) (w:World) (R:Ending->World->Prop):Prop:=
 RR (sOp (.box 25 (.const p0)) 0) w fun a b=>
 RR (sOp (.fieldAddr 25 (.const a) 0) 0) b fun b c=>
 RR (sOp (.load 3 (.const b)) 3) c fun b c=>
 RR (ao .eql 3 false true b (.int .i64 3)) c fun b c=>
 ((fun d:VW=>ag b true (
 RR (sOp (.fieldAddr 25 (.const a) 3) 0) c fun a c=>
 RR (sOp (.load 23 (.const a)) 23) c fun a c=>
 RR (aq .len #[23] 3 [false] [a]) c fun a c=>
 RR (ao .eql 3 false true a (.int .i64 2)) c fun a c=>
 RR (sOp (.pick (.const b) (.const a) (.const (.bool false))) 4) c fun a b=>d a b) (
 RR (sOp (.pick (.const b) (.const undef) (.const (.bool false))) 4) c fun a b=>d a b)) fun b c=>
 ag b true (
 RR (sOp (.fieldAddr 25 (.const a) 2) 0) c fun a c=>
 RR (sOp (.load 9 (.const a)) 9) c fun a c=>
 RR (aH (.func (.func 164) #[] #[]) [a]) c fun a c=>
 RR (ao .gtr 3 false true a (.int .i64 0)) c fun a c=>
 RR (sOp (.pick (.const b) (.const a) (.const (.bool false))) 4) c fun a b=>
 R (.returned a) b) (
 RR (sOp (.pick (.const b) (.const undef) (.const (.bool false))) 4) c fun a b=>
 R (.returned a) b))
theorem sD {p0:Value} {w:World} {R:Ending->World->Prop} (h:n5 p0 w R):Calls Tryz.prog 195 #[p0] w R:=
  aN .leaf [p0] bh Tryz.func195 (by kernel_rfl) (by kernel_rfl) h


/- loop.example/prologserver/spec.l2Left : function 196 -/
def rM (p0 p1:Value) (w:World) (R:Ending->World->Prop):Prop:=
 RR (sOp (.box 25 (.const p0)) 0) w fun a b=>
 RR (sOp (.load 25 (.const a)) 25) b fun b c=>
 RR (aH (.func (.func 201) #[] #[]) [b]) c fun b c=>
 CondV b (
 RR (sOp (.load 25 (.const a)) 25) c fun a b=>
 RR (aH (.func (.func 189) #[] #[]) [a]) b fun a b=>
 RR (ao .add 9 true false (.string ⟨#[40]⟩) a) b fun a b=>
 RR (ao .add 9 false true a (.string ⟨#[41]⟩)) b fun a b=>
 R (.returned a) b) (
 RR (sOp (.load 25 (.const a)) 25) c fun a b=>
 RR (aH (.func (.func 202) #[] #[]) [a,p1]) b fun a b=>
 R (.returned a) b)
theorem sO {p0 p1:Value} {w:World} {R:Ending->World->Prop} (h:rM p0 p1 w R):Calls Tryz.prog 196 #[p0,p1] w R:=
  aN .leaf [p0,p1] bh Tryz.func196 (by kernel_rfl) (by kernel_rfl) h


/- loop.example/prologserver/spec.l2Spaced : function 197 -/
def ms (p0:Value) (w:World) (R:Ending->World->Prop):Prop:=
 (∃ a:Value->World->Prop,(
 RR (ao .eql 9 false true p0 (.string ⟨#[105,115]⟩)) w fun b c=>
 ag b false (
 RR (ao .eql 9 false true p0 (.string ⟨#[109,111,100]⟩)) c fun c d=>
 RR (sOp (.pick (.const b) (.const (.bool true)) (.const c)) 4) d fun b c=>
 a b c) (
 RR (sOp (.pick (.const b) (.const (.bool true)) (.const undef)) 4) c fun b c=>
 a b c))/\
 ∀ b _ _ _ _ _:Value,∀ c:World,a b c->
 CondV b (
 RR (ao .add 9 true false (.string ⟨#[32]⟩) p0) c fun a b=>
 RR (ao .add 9 false true a (.string ⟨#[32]⟩)) b fun a b=>
 R (.returned a) b) (
 R (.returned p0) c))
theorem pN {p0:Value} {w:World} {R:Ending->World->Prop} (h:ms p0 w R):Calls Tryz.prog 197 #[p0] w R:=
  aN (.seq none .leaf (.seq none (.seq (some [8]) .leaf .leaf) .leaf)) [p0] bh Tryz.func197 (by kernel_rfl) (by kernel_rfl) h


/- loop.example/prologserver/spec.l2Right : function 198 -/
def ot (p0 p1:Value) (w:World) (R:Ending->World->Prop):Prop:=
 RR (sOp (.box 25 (.const p0)) 0) w fun a b=>
 RR (sOp (.load 25 (.const a)) 25) b fun b c=>
 RR (aH (.func (.func 202) #[] #[]) [b,p1]) c fun b c=>
 (∃ d:Value->World->Prop,(
 RR (sOp (.load 25 (.const a)) 25) c fun a c=>
 RR (aH (.func (.func 201) #[] #[]) [a]) c fun a c=>
 ag a false (
 RR (aH (.func (.func 203) #[] #[]) [b]) c fun b c=>
 RR (sOp (.unOp .not 4 (.const b)) 4) c fun b c=>
 RR (sOp (.pick (.const a) (.const (.bool true)) (.const b)) 4) c fun a b=>
 d a b) (
 RR (sOp (.pick (.const a) (.const (.bool true)) (.const undef)) 4) c fun a b=>
 d a b))/\
 ∀ a _ _ _ _ _ _:Value,∀ c:World,d a c->
 CondV a (
 RR (ao .add 9 true false (.string ⟨#[40]⟩) b) c fun a b=>
 RR (ao .add 9 false true a (.string ⟨#[41]⟩)) b fun a b=>
 R (.returned a) b) (
 R (.returned b) c))
theorem sd {p0 p1:Value} {w:World} {R:Ending->World->Prop} (h:ot p0 p1 w R):Calls Tryz.prog 198 #[p0,p1] w R:=
  aN (.seq none .leaf (.seq none .leaf (.seq none (.seq (some [15]) .leaf .leaf) .leaf))) [p0,p1] bh Tryz.func198 (by kernel_rfl) (by kernel_rfl) h


/- loop.example/prologserver/spec.l2Args : function 199 -/
def qX (p0:Value) (w:World) (R:Ending->World->Prop):Prop:=
 (∃ (a:Value->Value->World->Prop) (b:Value->Value->World->Nat),a (.int .i64 0) (.string ⟨#[]⟩) w/\
 ∀ c _ _ _ _ _ _ _ _ _ d _ _ _ _ _ _ _ _:Value,∀ e:World,a c d e->
 RR (aq .len #[23] 3 [false] [p0]) e fun f g=>
 RR (ao .lss 3 false false c f) g fun f g=>
 CondV f (
 (∃ f:Value->World->Prop,(
 RR (ao .gtr 3 false true c (.int .i64 0)) g fun a b=>
 CondV a (
 RR (ao .add 9 false true d (.string ⟨#[44]⟩)) b fun a b=>
 f a b) (
 f d b))/\
 ∀ g _ _ _ _:Value,∀ h:World,f g h->
 RR (sOp (.indexAddr 23 (.const p0) (.const c)) 0) h fun f h=>
 RR (sOp (.load 25 (.const f)) 25) h fun f h=>
 RR (aH (.func (.func 189) #[] #[]) [f]) h fun f h=>
 RR (ao .add 9 false false g f) h fun f g=>
 RR (ao .add 3 false true c (.int .i64 1)) g fun g h=>
 a g f h/\b g f h<b c d e)) (
 R (.returned d) g))
theorem tb {p0:Value} {w:World} {R:Ending->World->Prop} (h:qX p0 w R):Calls Tryz.prog 199 #[p0] w R:=
  aN (.seq none .leaf (.seq none .leaf (.seq none (.seq none .leaf (.one (.loop [4,3] (.seq none .leaf (.seq none (.one (.seq (some [3]) .leaf .leaf)) .leaf))))) .leaf))) [p0] bh Tryz.func199 (by kernel_rfl) (by kernel_rfl) h


/- loop.example/prologserver/spec.l2Sole : function 201 -/
def ra (p0:Value) (w:World) (R:Ending->World->Prop):Prop:=
 RR (sOp (.box 25 (.const p0)) 0) w fun a b=>
 RR (sOp (.fieldAddr 25 (.const a) 0) 0) b fun b c=>
 RR (sOp (.load 3 (.const b)) 3) c fun b c=>
 RR (ao .eql 3 false true b (.int .i64 3)) c fun b c=>
 ((fun d:VW=>ag b true (
 RR (sOp (.fieldAddr 25 (.const a) 3) 0) c fun a c=>
 RR (sOp (.load 23 (.const a)) 23) c fun a c=>
 RR (aq .len #[23] 3 [false] [a]) c fun a c=>
 RR (ao .eql 3 false true a (.int .i64 0)) c fun a c=>
 RR (sOp (.pick (.const b) (.const a) (.const (.bool false))) 4) c fun a b=>d a b) (
 RR (sOp (.pick (.const b) (.const undef) (.const (.bool false))) 4) c fun a b=>d a b)) fun b c=>
 ag b true (
 RR (sOp (.fieldAddr 25 (.const a) 2) 0) c fun a c=>
 RR (sOp (.load 9 (.const a)) 9) c fun a c=>
 RR (aH (.func (.func 164) #[] #[]) [a]) c fun a c=>
 RR (ao .gtr 3 false true a (.int .i64 0)) c fun a c=>
 RR (sOp (.pick (.const b) (.const a) (.const (.bool false))) 4) c fun a b=>
 R (.returned a) b) (
 RR (sOp (.pick (.const b) (.const undef) (.const (.bool false))) 4) c fun a b=>
 R (.returned a) b))
theorem tH {p0:Value} {w:World} {R:Ending->World->Prop} (h:ra p0 w R):Calls Tryz.prog 201 #[p0] w R:=
  aN .leaf [p0] bh Tryz.func201 (by kernel_rfl) (by kernel_rfl) h


/- loop.example/prologserver/spec.l2Bracket : function 202 -/
def lG (p0 p1:Value) (w:World) (R:Ending->World->Prop):Prop:=
 RR (sOp (.box 25 (.const p0)) 0) w fun a b=>
 (∃ c:Value->World->Prop,(
 RR (sOp (.load 25 (.const a)) 25) b fun b d=>
 RR (aH (.func (.func 195) #[] #[]) [b]) d fun b d=>
 ag b true (
 RR (sOp (.fieldAddr 25 (.const a) 2) 0) d fun a d=>
 RR (sOp (.load 9 (.const a)) 9) d fun a d=>
 RR (aH (.func (.func 164) #[] #[]) [a]) d fun a d=>
 RR (ao .gtr 3 false false a p1) d fun a d=>
 RR (sOp (.pick (.const b) (.const a) (.const (.bool false))) 4) d fun a b=>
 c a b) (
 RR (sOp (.pick (.const b) (.const undef) (.const (.bool false))) 4) d fun a b=>
 c a b))/\
 ∀ b _ _ _ _ _ _ _ _:Value,∀ d:World,c b d->
 CondV b (
 RR (sOp (.load 25 (.const a)) 25) d fun a b=>
 RR (aH (.func (.func 189) #[] #[]) [a]) b fun a b=>
 RR (ao .add 9 true false (.string ⟨#[40]⟩) a) b fun a b=>
 RR (ao .add 9 false true a (.string ⟨#[41]⟩)) b fun a b=>
 R (.returned a) b) (
 RR (sOp (.load 25 (.const a)) 25) d fun a b=>
 RR (aH (.func (.func 189) #[] #[]) [a]) b fun a b=>
 R (.returned a) b))
theorem og {p0 p1:Value} {w:World} {R:Ending->World->Prop} (h:lG p0 p1 w R):Calls Tryz.prog 202 #[p0,p1] w R:=
  aN (.seq none .leaf (.seq none (.seq (some [13]) .leaf .leaf) .leaf)) [p0,p1] bh Tryz.func202 (by kernel_rfl) (by kernel_rfl) h


/- loop.example/prologserver/spec.l2Plain : function 203 -/
def nO (p0:Value) (w:World) (R:Ending->World->Prop):Prop:=
 RR (aH (.func (.func 175) #[] #[]) [p0,(.int .i64 0)]) w fun a b=>
 ((fun c:VW=>ag a false (
 RR (aH (.func (.func 151) #[] #[]) [p0,(.int .i64 0)]) b fun b d=>
 RR (sOp (.pick (.const a) (.const (.bool true)) (.const b)) 4) d fun a b=>c a b) (
 RR (sOp (.pick (.const a) (.const (.bool true)) (.const undef)) 4) b fun a b=>c a b)) fun a b=>
 ag a false (
 RR (sOp (.index 9 (.const p0) (.const (.int .i64 0))) 5) b fun b c=>
 RR (ao .geq 5 false true b (.int .u8 65)) c fun b c=>
 ag b true (
 RR (sOp (.index 9 (.const p0) (.const (.int .i64 0))) 5) c fun c d=>
 RR (ao .leq 5 false true c (.int .u8 90)) d fun c d=>
 ((fun e:VW=>ag a false (
 RR (sOp (.pick (.const b) (.const c) (.const (.bool false))) 4) d fun b c=>
 RR (sOp (.pick (.const a) (.const (.bool true)) (.const b)) 4) c fun a b=>e a b) (
 RR (sOp (.pick (.const a) (.const (.bool true)) (.const undef)) 4) d fun a b=>e a b)) fun a b=>
 ((fun c:VW=>ag a false (
 RR (sOp (.index 9 (.const p0) (.const (.int .i64 0))) 5) b fun b d=>
 RR (ao .eql 5 false true b (.int .u8 91)) d fun b d=>
 RR (sOp (.pick (.const a) (.const (.bool true)) (.const b)) 4) d fun a b=>c a b) (
 RR (sOp (.pick (.const a) (.const (.bool true)) (.const undef)) 4) b fun a b=>c a b)) fun a b=>
 ag a false (
 RR (sOp (.index 9 (.const p0) (.const (.int .i64 0))) 5) b fun b c=>
 RR (ao .eql 5 false true b (.int .u8 40)) c fun b c=>
 RR (sOp (.pick (.const a) (.const (.bool true)) (.const b)) 4) c fun a b=>
 R (.returned a) b) (
 RR (sOp (.pick (.const a) (.const (.bool true)) (.const undef)) 4) b fun a b=>
 R (.returned a) b)))) (
 ((fun d:VW=>ag a false (
 RR (sOp (.pick (.const b) (.const undef) (.const (.bool false))) 4) c fun b c=>
 RR (sOp (.pick (.const a) (.const (.bool true)) (.const b)) 4) c fun a b=>d a b) (
 RR (sOp (.pick (.const a) (.const (.bool true)) (.const undef)) 4) c fun a b=>d a b)) fun a b=>
 ((fun c:VW=>ag a false (
 RR (sOp (.index 9 (.const p0) (.const (.int .i64 0))) 5) b fun b d=>
 RR (ao .eql 5 false true b (.int .u8 91)) d fun b d=>
 RR (sOp (.pick (.const a) (.const (.bool true)) (.const b)) 4) d fun a b=>c a b) (
 RR (sOp (.pick (.const a) (.const (.bool true)) (.const undef)) 4) b fun a b=>c a b)) fun a b=>
 ag a false (
 RR (sOp (.index 9 (.const p0) (.const (.int .i64 0))) 5) b fun b c=>
 RR (ao .eql 5 false true b (.int .u8 40)) c fun b c=>
 RR (sOp (.pick (.const a) (.const (.bool true)) (.const b)) 4) c fun a b=>
 R (.returned a) b) (
 RR (sOp (.pick (.const a) (.const (.bool true)) (.const undef)) 4) b fun a b=>
 R (.returned a) b))))) (
 ag undef true (
 RR (sOp (.index 9 (.const p0) (.const (.int .i64 0))) 5) b fun b c=>
 RR (ao .leq 5 false true b (.int .u8 90)) c fun b c=>
 ((fun d:VW=>ag a false (
 RR (sOp (.pick (.const undef) (.const b) (.const (.bool false))) 4) c fun b c=>
 RR (sOp (.pick (.const a) (.const (.bool true)) (.const b)) 4) c fun a b=>d a b) (
 RR (sOp (.pick (.const a) (.const (.bool true)) (.const undef)) 4) c fun a b=>d a b)) fun a b=>
 ((fun c:VW=>ag a false (
 RR (sOp (.index 9 (.const p0) (.const (.int .i64 0))) 5) b fun b d=>
 RR (ao .eql 5 false true b (.int .u8 91)) d fun b d=>
 RR (sOp (.pick (.const a) (.const (.bool true)) (.const b)) 4) d fun a b=>c a b) (
 RR (sOp (.pick (.const a) (.const (.bool true)) (.const undef)) 4) b fun a b=>c a b)) fun a b=>
 ag a false (
 RR (sOp (.index 9 (.const p0) (.const (.int .i64 0))) 5) b fun b c=>
 RR (ao .eql 5 false true b (.int .u8 40)) c fun b c=>
 RR (sOp (.pick (.const a) (.const (.bool true)) (.const b)) 4) c fun a b=>
 R (.returned a) b) (
 RR (sOp (.pick (.const a) (.const (.bool true)) (.const undef)) 4) b fun a b=>
 R (.returned a) b)))) (
 ((fun c:VW=>ag a false (
 RR (sOp (.pick (.const undef) (.const undef) (.const (.bool false))) 4) b fun b d=>
 RR (sOp (.pick (.const a) (.const (.bool true)) (.const b)) 4) d fun a b=>c a b) (
 RR (sOp (.pick (.const a) (.const (.bool true)) (.const undef)) 4) b fun a b=>c a b)) fun a b=>
 ((fun c:VW=>ag a false (
 RR (sOp (.index 9 (.const p0) (.const (.int .i64 0))) 5) b fun b d=>
 RR (ao .eql 5 false true b (.int .u8 91)) d fun b d=>
 RR (sOp (.pick (.const a) (.const (.bool true)) (.const b)) 4) d fun a b=>c a b) (
 RR (sOp (.pick (.const a) (.const (.bool true)) (.const undef)) 4) b fun a b=>c a b)) fun a b=>
 ag a false (
 RR (sOp (.index 9 (.const p0) (.const (.int .i64 0))) 5) b fun b c=>
 RR (ao .eql 5 false true b (.int .u8 40)) c fun b c=>
 RR (sOp (.pick (.const a) (.const (.bool true)) (.const b)) 4) c fun a b=>
 R (.returned a) b) (
 RR (sOp (.pick (.const a) (.const (.bool true)) (.const undef)) 4) b fun a b=>
 R (.returned a) b))))))
theorem si {p0:Value} {w:World} {R:Ending->World->Prop} (h:nO p0 w R):Calls Tryz.prog 203 #[p0] w R:=
  aN .leaf [p0] bh Tryz.func203 (by kernel_rfl) (by kernel_rfl) h

end Go.Proofs.YtemmhhdnlbmicaaGreat
