/- Made by program: the functions in a shallow form; each form gives Calls. -/
import Derived.Test.YtfcbhfjomgopbaaGreatZT1S
import Derived.Test.YtfcbhfjomgopbaaGreatProg
import Derived.Test.YtfcbhfjomgopbaaGreatZT1h0
import Derived.KernelRfl
set_option maxRecDepth 100000
namespace Go.Proofs.YtfcbhfjomgopbaaGreat
open Go
variable {p0 p1 p2 p3 p4:Value} {w:World} {R:Ending->World->Prop}
def wU:V1:=fun p0 w R=>
 Bx 36 p0 w fun a b=>
 Al 36 b fun b c=>
 Fd 36 a 3 c fun c d=>
 Ld 34 c d fun c d=>
 Ia 34 c (nn 0) d fun c d=>
 Ld 36 c d fun c d=>
 Al 36 d fun d e=>
 St 36 d c e fun _ c=>
 Fd 36 a 3 c fun a c=>
 Ld 34 a c fun a c=>
 Ia 34 a (nn 1) c fun a c=>
 Ld 36 a c fun a c=>
 Al 36 c fun c e=>
 St 36 c a e fun _ a=>
 (∃ e:QP1,(
 Fd 36 d 0 a fun a b=>
 Ld 3 a b fun a b=>
 Bb .eql 3 a (nn 1) b fun a b=>
 ag a false (
 Fd 36 c 0 b fun b c=>
 Ld 3 b c fun b c=>
 Bb .eql 3 b (nn 1) c fun b c=>
 Pk a (.bool true) b c fun a b=>
 e a b) (
 Pk a (.bool true) undef b fun a b=>
 e a b))/\
 ∀ a _ _ _ _ _ _ _:Value,∀ f:World,e a f->
 CondV a (
 RR (bD 36 []) f fun a c=>
 St 36 b a c fun _ a=>
 (aO Tryz.prog 36 b a fun b=>R (.returned (.tuple #[b,(nn 2)])) a)) (
 (∃ a:QP1,(
 Fd 36 d 0 f fun b d=>
 Ld 3 b d fun b d=>
 Bb .neq 3 b (nn 2) d fun b d=>
 ((fun a:VW=>ag b false (
 Fd 36 c 0 d fun c d=>
 Ld 3 c d fun c d=>
 Bb .neq 3 c (nn 3) d fun c d=>
 Pk b (.bool true) c d fun b c=>a b c) (
 Pk b (.bool true) undef d fun b c=>a b c)) fun b d=>
 ag b false (
 Fd 36 c 3 d fun c d=>
 Ld 34 c d fun c d=>
 Ln 34 c d fun c d=>
 Bb .eql 3 c (nn 0) d fun c d=>
 Pk b (.bool true) c d fun b c=>
 a b c) (
 Pk b (.bool true) undef d fun b c=>
 a b c)))/\
 ∀ e _ _ _ _ _ _ _ _ _ _ _ _ _:Value,∀ f:World,a e f->
 CondV e (
 RR (bD 36 []) f fun a c=>
 St 36 b a c fun _ a=>
 (aO Tryz.prog 36 b a fun b=>R (.returned (.tuple #[b,(nn 3)])) a)) (
 (∃ a:QP1,(
 Fd 36 d 1 f fun b e=>
 Ld 3 b e fun b e=>
 Bb .lss 3 b (nn 1) e fun b e=>
 ag b false (
 Fd 36 d 1 e fun d e=>
 Ld 3 d e fun d e=>
 Fd 36 c 3 e fun c e=>
 Ld 34 c e fun c e=>
 Ln 34 c e fun c e=>
 Ba .gtr 3 d c e fun c d=>
 Pk b (.bool true) c d fun b c=>
 a b c) (
 Pk b (.bool true) undef e fun b c=>
 a b c))/\
 ∀ e _ _ _ _ _ _ _ _ _ _:Value,∀ f:World,a e f->
 CondV e (
 RR (bD 36 []) f fun a c=>
 St 36 b a c fun _ a=>
 (aO Tryz.prog 36 b a fun b=>R (.returned (.tuple #[b,(nn 1)])) a)) (
 Fd 36 c 3 f fun a c=>
 Ld 34 a c fun a c=>
 Fd 36 d 1 c fun c d=>
 Ld 3 c d fun c d=>
 Bb .sub 3 c (nn 1) d fun c d=>
 Ia 34 a c d fun a c=>
 Ld 36 a c fun a c=>
 St 36 b a c fun _ a=>
 (aO Tryz.prog 36 b a fun b=>R (.returned (.tuple #[b,(nn 0)])) a)))))))
theorem zQ (h:wU p0 w R):CC 164 #[p0] w R:=
  aw (.seq none .leaf (.seq none .leaf (.seq none .leaf (.seq none (.seq (some [21]) .leaf .leaf) (.seq none (.seq (some [36]) .leaf .leaf) (.seq none (.seq (some [48]) .leaf .leaf) .leaf)))))) [p0] bo Tryz.func164 (by kernel_rfl) (by kernel_rfl) h

def lg:V1:=fun p0 w R=>
 Bb .eql 9 p0 (.string ⟨#[60]⟩) w fun a b=>
 ((fun c:VW=>ag a false (
 Bb .eql 9 p0 (.string ⟨#[62]⟩) b fun b d=>
 Pk a (.bool true) b d fun a b=>c a b) (
 Pk a (.bool true) undef b fun a b=>c a b)) fun a b=>
 ((fun c:VW=>ag a false (
 Bb .eql 9 p0 (.string ⟨#[61,60]⟩) b fun b d=>
 Pk a (.bool true) b d fun a b=>c a b) (
 Pk a (.bool true) undef b fun a b=>c a b)) fun a b=>
 ((fun c:VW=>ag a false (
 Bb .eql 9 p0 (.string ⟨#[62,61]⟩) b fun b d=>
 Pk a (.bool true) b d fun a b=>c a b) (
 Pk a (.bool true) undef b fun a b=>c a b)) fun a b=>
 ag a false (
 Bb .eql 9 p0 (.string ⟨#[61,58,61]⟩) b fun b c=>
 Pk a (.bool true) b c fun a b=>
 R (.returned a) b) (
 Pk a (.bool true) undef b fun a b=>
 R (.returned a) b))))
theorem pF (h:lg p0 w R):CC 165 #[p0] w R:=
  aw .leaf [p0] bo Tryz.func165 (by kernel_rfl) (by kernel_rfl) h

def nf:V1:=fun p0 w R=>
 Bx 36 p0 w fun a b=>
 Fd 36 a 3 b fun b c=>
 Ld 34 b c fun b c=>
 Ia 34 b (nn 0) c fun b c=>
 Ld 36 b c fun b c=>
 Ca 163 [b] c fun b c=>
 Ex b 0 3 c fun c d=>
 Ex b 1 3 d fun b d=>
 Bb .neq 3 b (nn 0) d fun d e=>
 CondV d (
 R (.returned b) e) (
 Fd 36 a 3 e fun b d=>
 Ld 34 b d fun b d=>
 Ia 34 b (nn 1) d fun b d=>
 Ld 36 b d fun b d=>
 Ca 163 [b] d fun b d=>
 Ex b 0 3 d fun d e=>
 Ex b 1 3 e fun b e=>
 Bb .neq 3 b (nn 0) e fun e f=>
 CondV e (
 R (.returned b) f) (
 Fd 36 a 2 f fun a b=>
 Ld 9 a b fun a b=>
 Ca 183 [a,c,d] b fun a b=>
 Ca 161 [a] b fun a b=>
 R (.returned a) b))
theorem r2 (h:nf p0 w R):CC 166 #[p0] w R:=
  aw .leaf [p0] bo Tryz.func166 (by kernel_rfl) (by kernel_rfl) h

def uF:V1:=fun p0 w R=>
 Bx 36 p0 w fun a b=>
 Fd 36 a 3 b fun b c=>
 Ld 34 b c fun b c=>
 Ia 34 b (nn 0) c fun b c=>
 Ld 36 b c fun b c=>
 Al 36 c fun c d=>
 St 36 c b d fun _ b=>
 Fd 36 a 2 b fun a b=>
 Ld 9 a b fun a b=>
 Bb .eql 9 a (.string ⟨#[118,97,114]⟩) b fun b d=>
 CondV b (
 Fd 36 c 0 d fun a b=>
 Ld 3 a b fun a b=>
 Bb .eql 3 a (nn 1) b fun a b=>
 Ca 161 [a] b fun a b=>
 R (.returned a) b) (
 Bb .eql 9 a (.string ⟨#[110,111,110,118,97,114]⟩) d fun b d=>
 CondV b (
 Fd 36 c 0 d fun a b=>
 Ld 3 a b fun a b=>
 Bb .neq 3 a (nn 1) b fun a b=>
 Ca 161 [a] b fun a b=>
 R (.returned a) b) (
 Bb .eql 9 a (.string ⟨#[105,110,116]⟩) d fun a b=>
 CondV a (
 Fd 36 c 0 b fun a b=>
 Ld 3 a b fun a b=>
 Bb .eql 3 a (nn 2) b fun a b=>
 Ca 161 [a] b fun a b=>
 R (.returned a) b) (
 Fd 36 c 0 b fun a b=>
 Ld 3 a b fun a b=>
 Bb .eql 3 a (nn 3) b fun a b=>
 ag a true (
 Fd 36 c 3 b fun b c=>
 Ld 34 b c fun b c=>
 Ln 34 b c fun b c=>
 Bb .eql 3 b (nn 0) c fun b c=>
 Pk a b (.bool false) c fun a b=>
 Ca 161 [a] b fun a b=>
 R (.returned a) b) (
 Pk a undef (.bool false) b fun a b=>
 Ca 161 [a] b fun a b=>
 R (.returned a) b))))
theorem xF (h:uF p0 w R):CC 167 #[p0] w R:=
  aw .leaf [p0] bo Tryz.func167 (by kernel_rfl) (by kernel_rfl) h

def p7 (w:World) (R:Ending->World->Prop):Prop:=
 RR (av 120 15 [(0,(.string ⟨#[43]⟩)),(1,(.string ⟨#[45]⟩)),(2,(.string ⟨#[42]⟩)),(3,(.string ⟨#[47,47]⟩)),(4,(.string ⟨#[61]⟩)),(5,(.string ⟨#[92,61]⟩)),(6,(.string ⟨#[61,61]⟩)),(7,(.string ⟨#[60]⟩)),(8,(.string ⟨#[62]⟩)),(9,(.string ⟨#[61,60]⟩)),(10,(.string ⟨#[62,61]⟩)),(11,(.string ⟨#[61,58,61]⟩)),(12,(.string ⟨#[46]⟩)),(13,(.string ⟨#[91,93]⟩)),(14,(.string ⟨#[33]⟩))]) w fun a b=>
 R (.returned a) b
theorem we {w:World} {R:Ending->World->Prop} (h:p7 w R):Calls Tryz.prog 168 #[] w R:=
  aw .leaf [] bo Tryz.func168 (by kernel_rfl) (by kernel_rfl) h


def mU:V1:=fun p0 w R=>
 Ca 116 [p0] w fun a b=>
 ag a false (
 Ca 185 [] b fun b c=>
 Ca 184 [b,p0] c fun b c=>
 Pk a (.bool true) b c fun a b=>
 R (.returned a) b) (
 Pk a (.bool true) undef b fun a b=>
 R (.returned a) b)
theorem rx (h:mU p0 w R):CC 169 #[p0] w R:=
  aw .leaf [p0] bo Tryz.func169 (by kernel_rfl) (by kernel_rfl) h

def mP:V2:=fun p0 p1 w R=>
 Bx 36 p0 w fun a b=>
 Al 36 b fun b c=>
 (∃ (d:World->Prop) (e:World->Nat),d c/\
 ∀ _ _ _ _ _ _ _ _ _ _ _ _ _ _ _ _ _ _ _ _ _ _ _ _:Value,∀ c:World,d c->
 (∃ f:QP1,(
 Fd 36 a 0 c fun b c=>
 Ld 3 b c fun b c=>
 Bb .eql 3 b (nn 1) c fun b c=>
 ((fun d:VW=>ag b true (
 Fd 36 a 1 c fun a c=>
 Ld 3 a c fun a c=>
 Ln 34 p1 c fun c e=>
 Ba .lss 3 a c e fun a c=>
 Pk b a (.bool false) c fun a b=>d a b) (
 Pk b undef (.bool false) c fun a b=>d a b)) fun b c=>
 ag b true (
 Fd 36 a 1 c fun a c=>
 Ld 3 a c fun a c=>
 Ia 34 p1 a c fun a c=>
 Fd 36 a 0 c fun a c=>
 Ld 3 a c fun a c=>
 Bb .neq 3 a (nn 0) c fun a c=>
 Pk b a (.bool false) c fun a b=>
 f a b) (
 Pk b undef (.bool false) c fun a b=>
 f a b)))/\
 ∀ g _ _ _ _ _ _ _ _ _ _ _ _ _ _ _ _ _ _:Value,∀ h:World,f g h->
 CondV g (
 Fd 36 a 1 h fun b f=>
 Ld 3 b f fun b f=>
 Ia 34 p1 b f fun b f=>
 Ld 36 b f fun b f=>
 St 36 a b f fun _ a=>
 d a/\e a<e c) (
 Ld 36 a h fun a c=>
 St 36 b a c fun _ a=>
 (aO Tryz.prog 36 b a fun b=>R (.returned b) a))))
theorem l5 (h:mP p0 p1 w R):CC 170 #[p0,p1] w R:=
  aw (.seq none .leaf (.seq none (.one (.loop [] (.seq none (.seq (some [23]) .leaf .leaf) .leaf))) .leaf)) [p0,p1] bo Tryz.func170 (by kernel_rfl) (by kernel_rfl) h

def js:V2:=fun p0 p1 w R=>
 Ln 120 p0 w fun a b=>
 (∃ (c:QP1) (d:QN1),c (nn 0) b/\
 ∀ b _ _ _ _ _ _ _ _ _ _ _ _:Value,∀ e:World,c b e->
 Ba .lss 3 b a e fun a f=>
 CondV a (
 Ia 120 p0 b f fun a f=>
 Ld 9 a f fun a f=>
 Ba .eql 9 p1 a f fun a f=>
 CondV a (
 R (.returned b) f) (
 Bb .add 3 b (nn 1) f fun a f=>
 c a f/\d a f<d b e)) (
 R (.returned (.int .i64 (-1))) f))
theorem mh (h:js p0 p1 w R):CC 171 #[p0,p1] w R:=
  aw (.seq none .leaf (.seq none (.seq none .leaf (.one (.loop [8] .leaf))) .leaf)) [p0,p1] bo Tryz.func171 (by kernel_rfl) (by kernel_rfl) h

def u7:V1:=fun p0 w R=>
 Bx 56 p0 w fun a b=>
 Fd 56 a 0 b fun b c=>
 Ld 36 b c fun b c=>
 Ca 187 [b] c fun b c=>
 (∃ (d:QP2) (e:QN2),d (nn 0) b c/\
 ∀ b _ _ _ _ _ _ _ _ _ _ _ _ c _ _ _ _ _ _ _ _ _:Value,∀ f:World,d b c f->
 Fd 56 a 1 f fun g h=>
 Ld 34 g h fun g h=>
 Ln 34 g h fun g h=>
 Ba .lss 3 b g h fun g h=>
 CondV g (
 (∃ g:QP1,(
 Bb .eql 3 b (nn 0) h fun a b=>
 CondV a (
 Bb .add 9 c (.string ⟨#[58,45]⟩) b fun a b=>
 g a b) (
 Bb .add 9 c (.string ⟨#[44]⟩) b fun a b=>
 g a b))/\
 ∀ _ _ h _ _ _ _:Value,∀ i:World,g h i->
 Fd 56 a 1 i fun a g=>
 Ld 34 a g fun a g=>
 Ia 34 a b g fun a g=>
 Ld 36 a g fun a g=>
 Ca 187 [a] g fun a g=>
 Ba .add 9 h a g fun a g=>
 Bb .add 3 b (nn 1) g fun g h=>
 d g a h/\e g a h<e b c f)) (
 Bb .add 9 c (.string ⟨#[46]⟩) h fun a b=>
 R (.returned a) b))
theorem yt (h:u7 p0 w R):CC 173 #[p0] w R:=
  aw (.seq none .leaf (.seq none .leaf (.seq none (.seq none .leaf (.one (.loop [4,3] (.seq none .leaf (.seq none (.one (.seq (some [3]) .leaf .leaf)) .leaf))))) .leaf))) [p0] bo Tryz.func173 (by kernel_rfl) (by kernel_rfl) h

def rf:V3:=fun p0 p1 p2 w R=>
 Al 36 w fun a b=>
 Ca 179 [p0,p1,p2,(.int .u8 93),(.int .u8 124)] b fun b c=>
 Ex b 0 34 c fun c d=>
 Ex b 1 3 d fun b d=>
 Bb .lss 3 b (nn 0) d fun d e=>
 CondV d (
 RR (bD 36 []) e fun c d=>
 St 36 a c d fun _ c=>
 (aO Tryz.prog 36 a c fun a=>R (.returned (.tuple #[a,b])) c)) (
 Ca 151 [p0,b,(.int .u8 93)] e fun d e=>
 CondV d (
 Ca 70 [(.string ⟨#[91,93]⟩),(Value.slice none 0 0)] e fun d e=>
 Ca 188 [c,d] e fun c d=>
 Bb .add 3 b (nn 1) d fun b d=>
 St 36 a c d fun _ c=>
 (aO Tryz.prog 36 a c fun a=>R (.returned (.tuple #[a,b])) c)) (
 Bb .add 3 b (nn 1) e fun b d=>
 Ca 131 [p0,b,p2,(nn 3)] d fun b d=>
 Ex b 0 36 d fun d e=>
 Ex b 1 3 e fun b e=>
 Al 36 e fun e f=>
 St 36 e d f fun _ d=>
 Bb .lss 3 b (nn 0) d fun d f=>
 CondV d (
 RR (bD 36 []) f fun c d=>
 St 36 a c d fun _ c=>
 (aO Tryz.prog 36 a c fun a=>R (.returned (.tuple #[a,b])) c)) (
 Ca 151 [p0,b,(.int .u8 93)] f fun d f=>
 Nt d f fun d f=>
 CondV d (
 Ca 174 [b] f fun b c=>
 Ex b 0 36 c fun c d=>
 Ex b 1 3 d fun b d=>
 St 36 a c d fun _ c=>
 (aO Tryz.prog 36 a c fun a=>R (.returned (.tuple #[a,b])) c)) (
 Ld 36 e f fun d e=>
 Ca 188 [c,d] e fun c d=>
 Bb .add 3 b (nn 1) d fun b d=>
 St 36 a c d fun _ c=>
 (aO Tryz.prog 36 a c fun a=>R (.returned (.tuple #[a,b])) c)))))
theorem wh (h:rf p0 p1 p2 w R):CC 175 #[p0,p1,p2] w R:=
  aw .leaf [p0,p1,p2] bo Tryz.func175 (by kernel_rfl) (by kernel_rfl) h

def p8:V2:=fun p0 p1 w R=>
 Bb .geq 3 p1 (nn 0) w fun a b=>
 ((fun c:VW=>ag a true (
 Ln 9 p0 b fun b d=>
 Ba .lss 3 p1 b d fun b d=>
 Pk a b (.bool false) d fun a b=>c a b) (
 Pk a undef (.bool false) b fun a b=>c a b)) fun a b=>
 ((fun c:VW=>ag a true (
 Ix 9 p0 p1 5 b fun b d=>
 Bb .geq 5 b (.int .u8 48) d fun b d=>
 Pk a b (.bool false) d fun a b=>c a b) (
 Pk a undef (.bool false) b fun a b=>c a b)) fun a b=>
 ag a true (
 Ix 9 p0 p1 5 b fun b c=>
 Bb .leq 5 b (.int .u8 57) c fun b c=>
 Pk a b (.bool false) c fun a b=>
 R (.returned a) b) (
 Pk a undef (.bool false) b fun a b=>
 R (.returned a) b)))
theorem wB (h:p8 p0 p1 w R):CC 176 #[p0,p1] w R:=
  aw .leaf [p0,p1] bo Tryz.func176 (by kernel_rfl) (by kernel_rfl) h

def oP:V2:=fun p0 p1 w R=>
 Al 36 w fun a b=>
 (∃ c:QP1,(
 Ca 151 [p0,p1,(.int .u8 45)] b fun a b=>
 CondV a (
 Bb .add 3 p1 (nn 1) b fun a b=>
 c a b) (
 c p1 b))/\
 ∀ b _ _ _ _ _:Value,∀ d:World,c b d->
 (∃ (c:QP1) (e:QN1),c b d/\
 ∀ d _ _ _ _ _ _ _ _ _ _ _:Value,∀ f:World,c d f->
 (∃ g:QP1,(
 Ca 176 [p0,d] f fun a c=>
 ag a true (
 Bb .add 3 b (nn 4) c fun b c=>
 Ba .lss 3 d b c fun b c=>
 Pk a b (.bool false) c fun a b=>
 g a b) (
 Pk a undef (.bool false) c fun a b=>
 g a b))/\
 ∀ h _ _ _ _ _ _ _ _:Value,∀ i:World,g h i->
 CondV h (
 Bb .add 3 d (nn 1) i fun a b=>
 c a b/\e a b<e d f) (
 RR (sOp (.slice 9 (.const p0) (some (.const b)) (some (.const d)) none) 9) i fun c e=>
 Ca 189 [c] e fun c e=>
 Ex c 0 3 e fun e f=>
 Ex c 1 4 f fun c f=>
 (∃ g:QP1,(
 Nt c f fun a c=>
 ag a false (
 Ba .gtr 3 b p1 c fun b c=>
 ag b true (
 Bb .eql 3 e (nn 0) c fun c d=>
 ((fun e:VW=>ag a false (
 Pk b c (.bool false) d fun b c=>
 Pk a (.bool true) b c fun a b=>e a b) (
 Pk a (.bool true) undef d fun a b=>e a b)) fun a b=>
 ag a false (
 Bb .gtr 3 e (nn 999) b fun b c=>
 Pk a (.bool true) b c fun a b=>
 g a b) (
 Pk a (.bool true) undef b fun a b=>
 g a b))) (
 ((fun d:VW=>ag a false (
 Pk b undef (.bool false) c fun b c=>
 Pk a (.bool true) b c fun a b=>d a b) (
 Pk a (.bool true) undef c fun a b=>d a b)) fun a b=>
 ag a false (
 Bb .gtr 3 e (nn 999) b fun b c=>
 Pk a (.bool true) b c fun a b=>
 g a b) (
 Pk a (.bool true) undef b fun a b=>
 g a b)))) (
 ag undef true (
 Bb .eql 3 e (nn 0) c fun b c=>
 ((fun d:VW=>ag a false (
 Pk undef b (.bool false) c fun b c=>
 Pk a (.bool true) b c fun a b=>d a b) (
 Pk a (.bool true) undef c fun a b=>d a b)) fun a b=>
 ag a false (
 Bb .gtr 3 e (nn 999) b fun b c=>
 Pk a (.bool true) b c fun a b=>
 g a b) (
 Pk a (.bool true) undef b fun a b=>
 g a b))) (
 ((fun b:VW=>ag a false (
 Pk undef undef (.bool false) c fun c d=>
 Pk a (.bool true) c d fun a c=>b a c) (
 Pk a (.bool true) undef c fun a c=>b a c)) fun a b=>
 ag a false (
 Bb .gtr 3 e (nn 999) b fun b c=>
 Pk a (.bool true) b c fun a b=>
 g a b) (
 Pk a (.bool true) undef b fun a b=>
 g a b)))))/\
 ∀ c _ _ _ _ _ _ _ _ _ _ _ _ _ _:Value,∀ f:World,g c f->
 CondV c (
 RR (bD 36 []) f fun b c=>
 St 36 a b c fun _ b=>
 (aO Tryz.prog 36 a b fun a=>R (.returned (.tuple #[a,(.int .i64 (-1))])) b)) (
 (∃ c:QP1,(
 Ba .gtr 3 b p1 f fun a b=>
 CondV a (
 RR (sOp (.unOp .neg 3 (.const e)) 3) b fun a b=>
 c a b) (
 c e b))/\
 ∀ b _ _ _ _ _:Value,∀ e:World,c b e->
 Ca 106 [b] e fun b c=>
 St 36 a b c fun _ b=>
 (aO Tryz.prog 36 a b fun a=>R (.returned (.tuple #[a,d])) b))))))))
theorem tN (h:oP p0 p1 w R):CC 177 #[p0,p1] w R:=
  aw (.seq none .leaf (.seq none .leaf (.seq (some [6]) .leaf (.seq none .leaf (.seq none (.one (.loop [6] (.seq none (.seq (some [25]) .leaf .leaf) .leaf))) (.seq none .leaf (.seq none (.seq (some [50]) .leaf .leaf) (.seq (some [8]) .leaf .leaf)))))))) [p0,p1] bo Tryz.func177 (by kernel_rfl) (by kernel_rfl) h

def tU:V2:=fun p0 p1 w R=>
 (∃ (a:QP1) (b:QN1),a p1 w/\
 ∀ c _ _ _ _ _:Value,∀ d:World,a c d->
 Ca 190 [p0,c] d fun e f=>
 CondV e (
 Bb .add 3 c (nn 1) f fun e f=>
 a e f/\b e f<b c d) (
 Bb .add 3 p1 (nn 6) f fun a b=>
 Ba .gtr 3 c a b fun a b=>
 CondV a (
 R (.returned (.tuple #[(.string ⟨#[]⟩),(.int .i64 (-1))])) b) (
 Ba .gtr 3 c p1 b fun a b=>
 CondV a (
 RR (sOp (.slice 9 (.const p0) (some (.const p1)) (some (.const c)) none) 9) b fun a b=>
 R (.returned (.tuple #[a,c])) b) (
 Ca 185 [] b fun a b=>
 (∃ (c:QP2) (d:QN2),c (nn 0) (.string ⟨#[]⟩) b/\
 ∀ b _ _ e _ _ _ _ f g h i j k l m n o p q r s t u v x y z A B C D E _ _ _ _ _ _ _ _ _ _:Value,∀ F:World,c b e F->
 Ln 120 a F fun G H=>
 Ba .lss 3 b G H fun G H=>
 CondV G (
 (∃ G:QP1,(
 Ia 120 a b H fun c d=>
 Ld 9 c d fun c d=>
 Ln 9 c d fun c d=>
 (∃ F:NB->OC,F fF f g h i j k l m n o p q r s t u v x y z A B C D E { d with drawn:=d.drawn+1 }/\(
 (∀ a:NB,a 0=false->∀ b c d e f g h i j k l m n o p q r s t u v x y z A B,F a b c d e f g h i j k l m n o p q r s t u v x y z A B->
 F (ah a 0) b c d e f g h i j k l m n o p q r s t u v x y z p1 B)/\
 (∀ a:NB,a 1=false->∀ b d e f g h i j k l m n o p q r s t u v x y z A B C,F a b d e f g h i j k l m n o p q r s t u v x y z A B C->
 F (ah a 1) b d e f g h i j k l m n o p q r s t u v x y z c B C)/\
 (∀ a:NB,a 2=false->a 0=true->a 1=true->∀ b c d e f g h i j k l m n o p q r s t u v x y z A B,F a b c d e f g h i j k l m n o p q r s t u v x y z A B->
 Ba .add 3 A z B fun y B=>
 F (ah a 2) b c d e f g h i j k l m n o p q r s t u v x y z A B)/\
 (∀ a:NB,a 3=false->∀ b c d e f g h i j k l m n o p q r s t u v x y z A B,F a b c d e f g h i j k l m n o p q r s t u v x y z A B->
 F (ah a 3) b c d e f g h i j k l m n o p q r s t u v p0 y z A B)/\
 (∀ a:NB,a 4=false->a 3=true->∀ b c d e f g h i j k l m n o p q r s t u v x y z A B,F a b c d e f g h i j k l m n o p q r s t u v x y z A B->
 Ln 9 x B fun v B=>
 F (ah a 4) b c d e f g h i j k l m n o p q r s t u v x y z A B)/\
 (∀ a:NB,a 5=false->a 2=true->a 4=true->∀ b c d e f g h i j k l m n o p q r s t u v x y z A B,F a b c d e f g h i j k l m n o p q r s t u v x y z A B->
 Ba .leq 3 y v B fun u B=>
 F (ah a 5) b c d e f g h i j k l m n o p q r s t u v x y z A B)/\
 (∀ a:NB,a 6=false->a 5=true->∀ b c d e f g h i j k l m n o p q r s t u v x y z A B,F a b c d e f g h i j k l m n o p q r s t u v x y z A B->
 F (ah a 6) b c d e f g h i j k l m n o p q r s u u v x y z A B)/\
 (∀ a:NB,a 7=false->a 6=true->∀ b c d e f g h i j k l m n o p q r s t u v x y z A B,F a b c d e f g h i j k l m n o p q r s t u v x y z A B->
 ag t true (F (ah a 7) b c d e f g h i j k l m n o p q r p0 t u v x y z A B) (F (ah a 7) b c d e f g h i j k l m n o p q r undef t u v x y z A B))/\
 (∀ a:NB,a 8=false->a 6=true->∀ b c d e f g h i j k l m n o p q r s t u v x y z A B,F a b c d e f g h i j k l m n o p q r s t u v x y z A B->
 ag t true (F (ah a 8) b c d e f g h i j k l m n o p q p1 s t u v x y z A B) (F (ah a 8) b c d e f g h i j k l m n o p q undef s t u v x y z A B))/\
 (∀ a:NB,a 9=false->a 6=true->∀ b c d e f g h i j k l m n o p q r s t u v x y z A B,F a b c d e f g h i j k l m n o p q r s t u v x y z A B->
 ag t true (F (ah a 9) b c d e f g h i j k l m n o p p1 r s t u v x y z A B) (F (ah a 9) b c d e f g h i j k l m n o p undef r s t u v x y z A B))/\
 (∀ a:NB,a 10=false->a 6=true->∀ b d e f g h i j k l m n o p q r s t u v x y z A B C,F a b d e f g h i j k l m n o p q r s t u v x y z A B C->
 ag u true (F (ah a 10) b d e f g h i j k l m n o p c r s t u v x y z A B C) (F (ah a 10) b d e f g h i j k l m n o p undef r s t u v x y z A B C))/\
 (∀ a:NB,a 11=false->a 9=true->a 10=true->a 6=true->∀ b c d e f g h i j k l m n o p q r s t u v x y z A B,F a b c d e f g h i j k l m n o p q r s t u v x y z A B->
 ag t true (Ba .add 3 q p B fun o B=>
 F (ah a 11) b c d e f g h i j k l m n o p q r s t u v x y z A B) (F (ah a 11) b c d e f g h i j k l m n undef p q r s t u v x y z A B))/\
 (∀ a:NB,a 12=false->a 7=true->a 8=true->a 11=true->a 6=true->∀ b c d e f g h i j k l m n o p q r s t u v x y z A B,F a b c d e f g h i j k l m n o p q r s t u v x y z A B->
 ag t true (RR (sOp (.slice 9 (.const s) (some (.const r)) (some (.const o)) none) 9) B fun n B=>
 F (ah a 12) b c d e f g h i j k l m n o p q r s t u v x y z A B) (F (ah a 12) b c d e f g h i j k l m undef o p q r s t u v x y z A B))/\
 (∀ b:NB,b 13=false->b 6=true->∀ c d e f g h i j k l m n o p q r s t u v x y z A B C,F b c d e f g h i j k l m n o p q r s t u v x y z A B C->
 ag u true (F (ah b 13) c d e f g h i j k l m a o p q r s t u v x y z A B C) (F (ah b 13) c d e f g h i j k l m undef o p q r s t u v x y z A B C))/\
 (∀ a:NB,a 14=false->a 6=true->∀ c d e f g h i j k l m n o p q r s t u v x y z A B C,F a c d e f g h i j k l m n o p q r s t u v x y z A B C->
 ag u true (F (ah a 14) c d e f g h i j k l b n o p q r s t u v x y z A B C) (F (ah a 14) c d e f g h i j k l undef n o p q r s t u v x y z A B C))/\
 (∀ a:NB,a 15=false->a 13=true->a 14=true->a 6=true->∀ b c d e f g h i j k l m n o p q r s t u v x y z A B,F a b c d e f g h i j k l m n o p q r s t u v x y z A B->
 ag t true (Ia 120 m l B fun k B=>
 F (ah a 15) b c d e f g h i j k l m n o p q r s t u v x y z A B) (F (ah a 15) b c d e f g h i j undef l m n o p q r s t u v x y z A B))/\
 (∀ a:NB,a 16=false->a 15=true->a 6=true->∀ b c d e f g h i j k l m n o p q r s t u v x y z A B,F a b c d e f g h i j k l m n o p q r s t u v x y z A B->
 ag t true (Ld 9 k B fun j B=>
 F (ah a 16) b c d e f g h i j k l m n o p q r s t u v x y z A B) (F (ah a 16) b c d e f g h i undef k l m n o p q r s t u v x y z A B))/\
 (∀ a:NB,a 17=false->a 12=true->a 16=true->a 6=true->∀ b c d e f g h i j k l m n o p q r s t u v x y z A B,F a b c d e f g h i j k l m n o p q r s t u v x y z A B->
 ag t true (Ba .eql 9 n j B fun i B=>
 F (ah a 17) b c d e f g h i j k l m n o p q r s t u v x y z A B) (F (ah a 17) b c d e f g h undef j k l m n o p q r s t u v x y z A B))/\
 (∀ a:NB,a 18=false->a 6=true->a 17=true->∀ b c d e f g h i j k l m n o p q r s t u v x y z A B,F a b c d e f g h i j k l m n o p q r s t u v x y z A B->
 Pk t i (.bool false) B fun h B=>
 F (ah a 18) b c d e f g h i j k l m n o p q r s t u v x y z A B)/\
 (∀ a:NB,a 19=false->a 18=true->a 6=true->∀ b c d e f g h i j k l m n o p q r s t u v x y z A B,F a b c d e f g h i j k l m n o p q r s t u v x y z A B->
 F (ah a 19) b c d e f h h i j k l m n o p q r s t u v x y z A B)/\
 (∀ a:NB,a 20=false->a 19=true->∀ b d e f g h i j k l m n o p q r s t u v x y z A B C,F a b d e f g h i j k l m n o p q r s t u v x y z A B C->
 ag h true (F (ah a 20) b d e f c h i j k l m n o p q r s t u v x y z A B C) (F (ah a 20) b d e f undef h i j k l m n o p q r s t u v x y z A B C))/\
 (∀ a:NB,a 21=false->a 19=true->∀ b c d f g h i j k l m n o p q r s t u v x y z A B C,F a b c d f g h i j k l m n o p q r s t u v x y z A B C->
 ag h true (F (ah a 21) b c d e g h i j k l m n o p q r s t u v x y z A B C) (F (ah a 21) b c d undef g h i j k l m n o p q r s t u v x y z A B C))/\
 (∀ a:NB,a 22=false->a 21=true->a 19=true->∀ b c d e f g h i j k l m n o p q r s t u v x y z A B,F a b c d e f g h i j k l m n o p q r s t u v x y z A B->
 ag g true (Ln 9 e B fun d B=>
 F (ah a 22) b c d e f g h i j k l m n o p q r s t u v x y z A B) (F (ah a 22) b c undef e f g h i j k l m n o p q r s t u v x y z A B))/\
 (∀ a:NB,a 23=false->a 20=true->a 22=true->a 19=true->∀ b c d e f g h i j k l m n o p q r s t u v x y z A B,F a b c d e f g h i j k l m n o p q r s t u v x y z A B->
 ag g true (Ba .gtr 3 f d B fun c B=>
 F (ah a 23) b c d e f g h i j k l m n o p q r s t u v x y z A B) (F (ah a 23) b undef d e f g h i j k l m n o p q r s t u v x y z A B))/\
 (∀ a:NB,a 24=false->a 19=true->a 23=true->∀ b c d e f g h i j k l m n o p q r s t u v x y z A B,F a b c d e f g h i j k l m n o p q r s t u v x y z A B->
 Pk g c (.bool false) B fun b B=>
 F (ah a 24) b c d e f g h i j k l m n o p q r s t u v x y z A B)/\
 True)/\
 ∀ c:NB,c 24=true->c 23=true->c 22=true->c 21=true->c 20=true->c 19=true->c 18=true->c 17=true->c 16=true->c 15=true->c 14=true->c 13=true->c 12=true->c 11=true->c 10=true->c 9=true->c 8=true->c 7=true->c 6=true->c 5=true->c 4=true->c 3=true->c 2=true->c 1=true->c 0=true->∀ d f g h i j k l m n o p q r s t u v x y z A B C D E,F c d f g h i j k l m n o p q r s t u v x y z A B C D E->
 CondV d (
 Ia 120 a b E fun a b=>
 Ld 9 a b fun a b=>
 G a b) (
 G e E)))/\
 ∀ a _ _ _ _ _ _ _ _ _ _ _ _ _ _ _ _ _ _ _ _ _ _ _ _ _ _ _ _ _ _ _ _ _ _ _:Value,∀ f:World,G a f->
 Bb .add 3 b (nn 1) f fun f g=>
 c f a g/\d f a g<d b e F)) (
 Bb .eql 9 e (.string ⟨#[]⟩) H fun a b=>
 CondV a (
 R (.returned (.tuple #[(.string ⟨#[]⟩),(.int .i64 (-1))])) b) (
 Ln 9 e b fun a b=>
 Ba .add 3 p1 a b fun a b=>
 R (.returned (.tuple #[e,a])) b)))))))
theorem yr (h:tU p0 p1 w R):CC 178 #[p0,p1] w R:=
  aw (.seq none .leaf (.seq none .leaf (.seq none (.one (.loop [6] .leaf)) (.seq none .leaf (.seq none .leaf (.seq none .leaf (.seq none .leaf (.seq none (.seq none .leaf (.one (.loop [9,7] (.seq none .leaf (.seq (some [7]) .leaf .leaf))))) .leaf)))))))) [p0,p1] bo Tryz.func178 (by kernel_rfl) (by kernel_rfl) h

def rL:V5:=fun p0 p1 p2 p3 p4 w R=>
 RR (av 34 0 []) w fun a b=>
 (∃ (c:QP2) (d:QN2),c p1 a b/\
 ∀ a _ _ _ _ _ _ _ _ _ _ _ _ _ _ _ _ _ _ _ _ b _ _ _ _ _ _ _ _ _ _ _ _ _ _ _ _ _ _:Value,∀ e:World,c a b e->
 Ca 131 [p0,a,p2,(nn 3)] e fun f g=>
 Ex f 0 36 g fun g h=>
 Ex f 1 3 h fun f h=>
 Al 36 h fun h i=>
 St 36 h g i fun _ g=>
 Bb .lss 3 f (nn 0) g fun g i=>
 CondV g (
 R (.returned (.tuple #[(Value.slice none 0 0),f])) i) (
 Ld 36 h i fun g h=>
 RR (av 34 1 [(0,g)]) h fun g h=>
 RR (bx .append #[34,34] 34 [false,false] [b,g]) h fun g h=>
 (∃ i:QP1,(
 Ca 151 [p0,f,p3] h fun a b=>
 ag a false (
 Ca 151 [p0,f,p4] b fun b c=>
 Pk a (.bool true) b c fun a b=>
 i a b) (
 Pk a (.bool true) undef b fun a b=>
 i a b))/\
 ∀ h _ _ _ _ _ _ _ _ _:Value,∀ j:World,i h j->
 CondV h (
 R (.returned (.tuple #[g,f])) j) (
 Ca 151 [p0,f,(.int .u8 44)] j fun h i=>
 Nt h i fun h i=>
 CondV h (
 Bc .sub 3 (.int .i64 (-1)) f i fun a b=>
 R (.returned (.tuple #[(Value.slice none 0 0),a])) b) (
 Bb .add 3 f (nn 1) i fun f h=>
 c f g h/\d f g h<d a b e)))))
theorem vK (h:rL p0 p1 p2 p3 p4 w R):CC 179 #[p0,p1,p2,p3,p4] w R:=
  aw (.seq none .leaf (.seq none .leaf (.one (.loop [1,12] (.one (.seq none .leaf (.seq none .leaf (.seq none .leaf (.seq none (.seq (some [39]) .leaf .leaf) .leaf))))))))) [p0,p1,p2,p3,p4] bo Tryz.func179 (by kernel_rfl) (by kernel_rfl) h

def wZ:V3:=fun p0 p1 p2 w R=>
 Bx 130 p1 w fun a b=>
 Bx 180 p2 b fun b c=>
 Al 130 c fun c d=>
 (∃ (e:QP1) (f:QN1),e (nn 0) d/\
 ∀ d _ _ _ _ g h i j k l m n o p q r s t u v x y z A B _ _ _ _ _ _ C D E F G H I J K L M N _ _ _ _ O P Q S T U V W X Y Z a0 a1 a2 a3 a4 a5 _ _ _ _ _ _ _ _ _ _ _ _ _ _ _ _ _ _:Value,∀ a6:World,e d a6->
 Fd 180 b 2 a6 fun a7 a8=>
 Ld 49 a7 a8 fun a7 a8=>
 Ln 49 a7 a8 fun a7 a8=>
 Ba .lss 3 d a7 a8 fun a7 a8=>
 CondV a7 (
 Fd 180 b 2 a8 fun a7 a8=>
 Ld 49 a7 a8 fun a7 a8=>
 Ia 49 a7 d a8 fun a7 a8=>
 Ld 3 a7 a8 fun a7 a8=>
 Ia 32 p0 a7 a8 fun a7 a8=>
 Ld 56 a7 a8 fun a7 a8=>
 Al 56 a8 fun a8 a9=>
 St 56 a8 a7 a9 fun _ a7=>
 Fd 180 b 3 a7 fun a7 a9=>
 Ld 34 a7 a9 fun a7 a9=>
 Ln 34 a7 a9 fun a7 a9=>
 (∃ b0:NB->QP8,b0 fF Y Z a0 a1 a2 a3 a4 a5 { a9 with drawn:=a9.drawn+1 }/\(
 (∀ a:NB,a 0=false->∀ b c d e f g h i j,b0 a b c d e f g h i j->
 RR (av 34 0 []) j fun i j=>
 b0 (ah a 0) b c d e f g h i j)/\
 (∀ a:NB,a 1=false->∀ c d e f g h i j k,b0 a c d e f g h i j k->
 Fd 180 b 3 k fun b i=>
 b0 (ah a 1) c d e f g h b j i)/\
 (∀ a:NB,a 2=false->a 1=true->∀ b c d e f g h i j,b0 a b c d e f g h i j->
 Ld 34 h j fun g j=>
 b0 (ah a 2) b c d e f g h i j)/\
 (∀ a:NB,a 3=false->a 0=true->a 2=true->∀ b c d e f g h i j,b0 a b c d e f g h i j->
 RR (bx .append #[34,34] 34 [false,false] [i,g]) j fun f j=>
 b0 (ah a 3) b c d e f g h i j)/\
 (∀ a:NB,a 4=false->∀ b c d e f g h i j,b0 a b c d e f g h i j->
 Ld 56 a8 j fun e j=>
 b0 (ah a 4) b c d e f g h i j)/\
 (∀ a:NB,a 5=false->a 4=true->a 3=true->∀ b c d e f g h i j,b0 a b c d e f g h i j->
 Ca 191 [e] j fun d j=>
 b0 (ah a 5) b c d e f g h i j)/\
 (∀ a:NB,a 6=false->a 3=true->a 5=true->a 5=true->∀ b c d e f g h i j,b0 a b c d e f g h i j->
 RR (bx .append #[34,3] 34 [false,false] [f,d]) j fun c j=>
 b0 (ah a 6) b c d e f g h i j)/\
 (∀ a:NB,a 7=false->a 6=true->a 6=true->a 0=true->a 1=true->a 2=true->a 3=true->a 4=true->a 5=true->a 6=true->∀ b c d e f g h i j,b0 a b c d e f g h i j->
 b0 (ah a 7) c c d e f g h i j)/\
 True)/\
 ∀ Y:NB,Y 7=true->Y 6=true->Y 5=true->Y 4=true->Y 3=true->Y 2=true->Y 1=true->Y 0=true->∀ Z a0 a1 a2 a3 a4 a5 a9 b1,b0 Y Z a0 a1 a2 a3 a4 a5 a9 b1->
 (∃ Y:NB->QP9,Y fF O P Q S T U V W X { b1 with drawn:=b1.drawn+1 }/\(
 (∀ a:NB,a 0=false->∀ c d e f g h i j k l,Y a c d e f g h i j k l->
 Fd 180 b 0 l fun b k=>
 Y (ah a 0) c d e f g h i j b k)/\
 (∀ a:NB,a 1=false->a 0=true->∀ b c d e f g h i j k,Y a b c d e f g h i j k->
 Ld 36 j k fun i k=>
 Y (ah a 1) b c d e f g h i j k)/\
 (∀ a:NB,a 2=false->∀ b c d e f g h i j k,Y a b c d e f g h i j k->
 Fd 56 a8 0 k fun h k=>
 Y (ah a 2) b c d e f g h i j k)/\
 (∀ a:NB,a 3=false->a 2=true->∀ b c d e f g h i j k,Y a b c d e f g h i j k->
 Ld 36 h k fun g k=>
 Y (ah a 3) b c d e f g h i j k)/\
 (∀ a:NB,a 4=false->∀ b c d e f g h i j k,Y a b c d e f g h i j k->
 Y (ah a 4) b c d e a7 g h i j k)/\
 (∀ a:NB,a 5=false->a 3=true->a 4=true->∀ b c d e f g h i j k,Y a b c d e f g h i j k->
 Ca 158 [g,f] k fun e k=>
 Y (ah a 5) b c d e f g h i j k)/\
 (∀ a:NB,a 6=false->∀ b c d e f g h i j k,Y a b c d e f g h i j k->
 Y (ah a 6) b c Z e f g h i j k)/\
 (∀ a:NB,a 7=false->a 1=true->a 5=true->a 6=true->a 5=true->∀ b c d e f g h i j k,Y a b c d e f g h i j k->
 Ca 162 [i,e,d] k fun c k=>
 Y (ah a 7) b c d e f g h i j k)/\
 (∀ a:NB,a 8=false->a 7=true->∀ b c d e f g h i j k,Y a b c d e f g h i j k->
 Nt c k fun b k=>
 Y (ah a 8) b c d e f g h i j k)/\
 True)/\
 ∀ O:NB,O 8=true->O 7=true->O 6=true->O 5=true->O 4=true->O 3=true->O 2=true->O 1=true->O 0=true->∀ P Q S T U V W X a0 a1,Y O P Q S T U V W X a0 a1->
 CondV P (
 Bb .add 3 d (nn 1) a1 fun a b=>
 e a b/\f a b<f d a6) (
 Fd 130 a 2 a1 fun e f=>
 Ld 128 e f fun e f=>
 Ln 128 e f fun e f=>
 (∃ O:NB->JK,O fF C D E F G H I J K L M N { f with drawn:=f.drawn+1 }/\(
 (∀ a:NB,a 0=false->∀ b c d e f g h i j k l m n,O a b c d e f g h i j k l m n->
 O (ah a 0) b c d e f g h i j k l Z n)/\
 (∀ b:NB,b 1=false->∀ c d e f g h i j k l m n o,O b c d e f g h i j k l m n o->
 Fd 130 a 2 o fun a m=>
 O (ah b 1) c d e f g h i j k l a n m)/\
 (∀ a:NB,a 2=false->a 1=true->∀ b c d e f g h i j k l m n,O a b c d e f g h i j k l m n->
 Ld 128 l n fun k n=>
 O (ah a 2) b c d e f g h i j k l m n)/\
 (∀ a:NB,a 3=false->∀ b c d e f g h i j k l m n,O a b c d e f g h i j k l m n->
 Fd 56 a8 1 n fun j n=>
 O (ah a 3) b c d e f g h i j k l m n)/\
 (∀ a:NB,a 4=false->a 3=true->∀ b c d e f g h i j k l m n,O a b c d e f g h i j k l m n->
 Ld 34 j n fun i n=>
 O (ah a 4) b c d e f g h i j k l m n)/\
 (∀ a:NB,a 5=false->∀ b c d e f g h i j k l m n,O a b c d e f g h i j k l m n->
 O (ah a 5) b c d e f g a7 i j k l m n)/\
 (∀ a:NB,a 6=false->∀ b c d f g h i j k l m n o,O a b c d f g h i j k l m n o->
 O (ah a 6) b c d f g e i j k l m n o)/\
 (∀ a:NB,a 7=false->∀ c d e f g h i j k l m n o,O a c d e f g h i j k l m n o->
 Fd 180 b 1 o fun b g=>
 O (ah a 7) c d e f b h i j k l m n g)/\
 (∀ a:NB,a 8=false->a 7=true->∀ b c d e f g h i j k l m n,O a b c d e f g h i j k l m n->
 Ld 127 f n fun e n=>
 O (ah a 8) b c d e f g h i j k l m n)/\
 (∀ a:NB,a 9=false->a 4=true->a 5=true->a 6=true->a 8=true->∀ b c d e f g h i j k l m n,O a b c d e f g h i j k l m n->
 Ca 134 [i,h,g,e] n fun d n=>
 O (ah a 9) b c d e f g h i j k l m n)/\
 (∀ a:NB,a 10=false->a 0=true->a 2=true->a 9=true->∀ b c d e f g h i j k l m n,O a b c d e f g h i j k l m n->
 RR (bD 130 [(1,m),(2,k),(0,d)]) n fun c n=>
 O (ah a 10) b c d e f g h i j k l m n)/\
 (∀ a:NB,a 11=false->∀ b c d e f g h i j k l m n,O a b c d e f g h i j k l m n->
 Al 130 n fun b n=>
 O (ah a 11) b c d e f g h i j k l m n)/\
 (∀ a:NB,a 12=false->a 11=true->a 10=true->a 9=true->a 0=true->a 1=true->a 2=true->a 3=true->a 4=true->a 5=true->a 6=true->a 7=true->a 8=true->a 9=true->a 10=true->a 11=true->∀ b c d e f g h i j k l m n,O a b c d e f g h i j k l m n->
 St 130 b c n fun _ n=>
 O (ah a 12) b c d e f g h i j k l m n)/\
 True)/\
 ∀ e:NB,e 12=true->e 11=true->e 10=true->e 9=true->e 8=true->e 7=true->e 6=true->e 5=true->e 4=true->e 3=true->e 2=true->e 1=true->e 0=true->∀ f C D E F G H I J K L M N,O e f C D E F G H I J K L M N->
 (∃ e:World->Prop,(
 Bb .add 3 d (nn 1) N fun c C=>
 Fd 180 b 2 C fun C D=>
 Ld 49 C D fun C D=>
 Ln 49 C D fun C D=>
 Ba .lss 3 c C D fun c C=>
 CondV c (
 (∃ c:NB->N4,c fF o p q r s t u v x y z A B { C with drawn:=C.drawn+1 }/\(
 (∀ a:NB,a 0=false->∀ d e f g h i j k l m n o p q,c a d e f g h i j k l m n o p q->
 Fd 180 b 0 q fun b p=>
 c (ah a 0) d e f g h i j k l m n o b p)/\
 (∀ a:NB,a 1=false->a 0=true->∀ b d e f g h i j k l m n o p,c a b d e f g h i j k l m n o p->
 Ld 36 o p fun n p=>
 c (ah a 1) b d e f g h i j k l m n o p)/\
 (∀ a:NB,a 2=false->∀ d e f g h i j k l m n o p q,c a d e f g h i j k l m n o p q->
 Fd 180 b 1 q fun b n=>
 c (ah a 2) d e f g h i j k l m b o p n)/\
 (∀ a:NB,a 3=false->a 2=true->∀ b d e f g h i j k l m n o p,c a b d e f g h i j k l m n o p->
 Ld 127 m p fun l p=>
 c (ah a 3) b d e f g h i j k l m n o p)/\
 (∀ a:NB,a 4=false->∀ d e f g h i j k l m n o p q,c a d e f g h i j k l m n o p q->
 Fd 180 b 2 q fun b l=>
 c (ah a 4) d e f g h i j k b m n o p l)/\
 (∀ a:NB,a 5=false->a 4=true->∀ b d e f g h i j k l m n o p,c a b d e f g h i j k l m n o p->
 Ld 49 k p fun j p=>
 c (ah a 5) b d e f g h i j k l m n o p)/\
 (∀ a:NB,a 6=false->∀ b e f g h i j k l m n o p q,c a b e f g h i j k l m n o p q->
 c (ah a 6) b e f g h i d k l m n o p q)/\
 (∀ a:NB,a 7=false->a 6=true->∀ b d e f g h i j k l m n o p,c a b d e f g h i j k l m n o p->
 Bb .add 3 i (nn 1) p fun h p=>
 c (ah a 7) b d e f g h i j k l m n o p)/\
 (∀ a:NB,a 8=false->a 5=true->a 7=true->∀ b d e f g h i j k l m n o p,c a b d e f g h i j k l m n o p->
 RR (sOp (.slice 49 (.const j) (some (.const h)) none none) 49) p fun g p=>
 c (ah a 8) b d e f g h i j k l m n o p)/\
 (∀ a:NB,a 9=false->∀ d e f g h i j k l m n o p q,c a d e f g h i j k l m n o p q->
 Fd 180 b 3 q fun b g=>
 c (ah a 9) d e f b h i j k l m n o p g)/\
 (∀ a:NB,a 10=false->a 9=true->∀ b d e f g h i j k l m n o p,c a b d e f g h i j k l m n o p->
 Ld 34 f p fun e p=>
 c (ah a 10) b d e f g h i j k l m n o p)/\
 (∀ a:NB,a 11=false->a 1=true->a 3=true->a 8=true->a 10=true->∀ b d e f g h i j k l m n o p,c a b d e f g h i j k l m n o p->
 RR (bD 180 [(0,n),(1,l),(2,g),(3,e)]) p fun d p=>
 c (ah a 11) b d e f g h i j k l m n o p)/\
 (∀ a:NB,a 12=false->∀ b d e f g h i j k l m n o p,c a b d e f g h i j k l m n o p->
 Al 180 p fun b p=>
 c (ah a 12) b d e f g h i j k l m n o p)/\
 (∀ a:NB,a 13=false->a 12=true->a 11=true->a 0=true->a 1=true->a 2=true->a 3=true->a 4=true->a 5=true->a 6=true->a 7=true->a 8=true->a 9=true->a 10=true->a 11=true->a 12=true->∀ b d e f g h i j k l m n o p,c a b d e f g h i j k l m n o p->
 St 180 b d p fun _ p=>
 c (ah a 13) b d e f g h i j k l m n o p)/\
 True)/\
 ∀ b:NB,b 13=true->b 12=true->b 11=true->b 10=true->b 9=true->b 8=true->b 7=true->b 6=true->b 5=true->b 4=true->b 3=true->b 2=true->b 1=true->b 0=true->∀ d o p q r s t u v x y z A B,c b d o p q r s t u v x y z A B->
 (∃ b:NB->QP8,b fF g h i j k l m n { B with drawn:=B.drawn+1 }/\(
 (∀ a:NB,a 0=false->∀ c d e f g h i j k,b a c d e f g h i j k->
 RR (av 128 0 []) k fun j k=>
 b (ah a 0) c d e f g h i j k)/\
 (∀ c:NB,c 1=false->∀ d e f g h i j k l,b c d e f g h i j k l->
 Fd 130 a 2 l fun a j=>
 b (ah c 1) d e f g h i a k j)/\
 (∀ a:NB,a 2=false->a 1=true->∀ c d e f g h i j k,b a c d e f g h i j k->
 Ld 128 i k fun h k=>
 b (ah a 2) c d e f g h i j k)/\
 (∀ a:NB,a 3=false->a 0=true->a 2=true->∀ c d e f g h i j k,b a c d e f g h i j k->
 RR (bx .append #[128,128] 128 [false,false] [j,h]) k fun g k=>
 b (ah a 3) c d e f g h i j k)/\
 (∀ a:NB,a 4=false->∀ c e f g h i j k l,b a c e f g h i j k l->
 Ld 180 d l fun d g=>
 b (ah a 4) c e f d h i j k g)/\
 (∀ a:NB,a 5=false->a 4=true->∀ c d e f g h i j k,b a c d e f g h i j k->
 RR (av 128 1 [(0,f)]) k fun e k=>
 b (ah a 5) c d e f g h i j k)/\
 (∀ a:NB,a 6=false->a 3=true->a 5=true->a 3=true->∀ c d e f g h i j k,b a c d e f g h i j k->
 RR (bx .append #[128,128] 128 [false,false] [g,e]) k fun d k=>
 b (ah a 6) c d e f g h i j k)/\
 (∀ a:NB,a 7=false->a 0=true->a 1=true->a 2=true->a 3=true->a 4=true->a 5=true->a 6=true->∀ c d e g h i j k l,b a c d e g h i j k l->
 Fd 130 f 2 l fun c f=>
 b (ah a 7) c d e g h i j k f)/\
 (∀ a:NB,a 8=false->a 7=true->a 6=true->a 6=true->a 0=true->a 1=true->a 2=true->a 3=true->a 4=true->a 5=true->a 6=true->∀ c d e f g h i j k,b a c d e f g h i j k->
 St 128 c d k fun _ k=>
 b (ah a 8) c d e f g h i j k)/\
 True)/\
 ∀ a:NB,a 8=true->a 7=true->a 6=true->a 5=true->a 4=true->a 3=true->a 2=true->a 1=true->a 0=true->∀ c d f g h i j k l,b a c d f g h i j k l->
 e l))) (
 e C))/\
 ∀ _ _ _ _ _ _ _ _ _ _ _ _ _ _ _ _ _ _ _ _ _ _ _ _ _ _ _:Value,∀ a:World,e a->
 Ld 130 f a fun a b=>
 St 130 c a b fun _ a=>
 (aO Tryz.prog 130 c a fun b=>R (.returned (.tuple #[b,(.bool true)])) a))))))) (
 Ld 130 a a8 fun a b=>
 St 130 c a b fun _ a=>
 (aO Tryz.prog 130 c a fun b=>R (.returned (.tuple #[b,(.bool false)])) a)))
theorem z8 (h:wZ p0 p1 p2 w R):CC 180 #[p0,p1,p2] w R:=
  aw (.seq none .leaf (.seq none (.seq none .leaf (.one (.loop [8] (.seq none .leaf (.seq none (.one (.seq none .leaf (.seq none .leaf (.seq none .leaf (.seq none .leaf (.seq none .leaf (.seq none .leaf (.seq (some []) .leaf .leaf)))))))) .leaf))))) .leaf)) [p0,p1,p2] bo Tryz.func180 (by kernel_rfl) (by kernel_rfl) h

def oU:V3:=fun p0 p1 p2 w R=>
 Bx 36 p1 w fun a b=>
 Ld 36 a b fun a b=>
 Ca 140 [(Value.slice none 0 0),a] b fun a b=>
 (∃ (c:QP2) (d:QN2),c (nn 0) a b/\
 ∀ a _ _ b _ _ _ _ _ _ _ _ _ _ _ _ _ _ _ _ _ _ _ _ _ _ _ _ _ _ _ _ _ _ _ _ _ _ _ _ _ _:Value,∀ e:World,c a b e->
 Ln 49 b e fun f g=>
 Ba .lss 3 a f g fun f g=>
 CondV f (
 (∃ f:QP1,(
 Ia 49 b a g fun c d=>
 Ld 3 c d fun c d=>
 Ba .eql 3 c p0 d fun c d=>
 CondV c (
 R (.returned (.bool true)) d) (
 (∃ c:QP1,(
 Ia 49 b a d fun d e=>
 Ld 3 d e fun d e=>
 Ln 34 p2 e fun e f=>
 Ba .lss 3 d e f fun d e=>
 ag d true (
 Ia 49 b a e fun a b=>
 Ld 3 a b fun a b=>
 Ia 34 p2 a b fun a b=>
 Fd 36 a 0 b fun a b=>
 Ld 3 a b fun a b=>
 Bb .neq 3 a (nn 0) b fun a b=>
 Pk d a (.bool false) b fun a b=>
 c a b) (
 Pk d undef (.bool false) e fun a b=>
 c a b))/\
 ∀ d _ _ _ _ _ _ _ _ _ _ _ _ _ _ _ _ _:Value,∀ e:World,c d e->
 CondV d (
 Ia 49 b a e fun a c=>
 Ld 3 a c fun a c=>
 Ia 34 p2 a c fun a c=>
 Ld 36 a c fun a c=>
 Ca 140 [b,a] c fun a b=>
 f a b) (
 f b e))))/\
 ∀ g _ _ _ _ _ _ _ _ _ _ _ _ _ _ _ _ _ _ _ _ _ _ _ _ _ _ _ _ _ _ _ _ _ _:Value,∀ h:World,f g h->
 Bb .add 3 a (nn 1) h fun f h=>
 c f g h/\d f g h<d a b e)) (
 R (.returned (.bool false)) g))
theorem s8 (h:oU p0 p1 p2 w R):CC 181 #[p0,p1,p2] w R:=
  aw (.seq none .leaf (.seq none .leaf (.seq none (.seq none .leaf (.one (.loop [8,7] (.seq none .leaf (.seq (some [7]) (.one (.seq none .leaf (.seq (some [40]) .leaf .leaf))) .leaf))))) .leaf))) [p0,p1,p2] bo Tryz.func181 (by kernel_rfl) (by kernel_rfl) h

def A4:V3:=fun p0 p1 p2 w R=>
 Bb .eql 9 p0 (.string ⟨#[43]⟩) w fun a b=>
 CondV a (
 Ba .add 3 p1 p2 b fun a b=>
 Ca 192 [a] b fun a b=>
 Ex a 0 3 b fun b c=>
 Ex a 1 3 c fun a c=>
 R (.returned (.tuple #[b,a])) c) (
 Bb .eql 9 p0 (.string ⟨#[45]⟩) b fun a b=>
 CondV a (
 Ba .sub 3 p1 p2 b fun a b=>
 Ca 192 [a] b fun a b=>
 Ex a 0 3 b fun b c=>
 Ex a 1 3 c fun a c=>
 R (.returned (.tuple #[b,a])) c) (
 Bb .eql 9 p0 (.string ⟨#[42]⟩) b fun a b=>
 CondV a (
 Ba .mul 3 p1 p2 b fun a b=>
 Ca 192 [a] b fun a b=>
 Ex a 0 3 b fun b c=>
 Ex a 1 3 c fun a c=>
 R (.returned (.tuple #[b,a])) c) (
 Bb .eql 3 p2 (nn 0) b fun a b=>
 CondV a (
 R (.returned (.tuple #[(nn 0),(nn 4)])) b) (
 Bb .eql 9 p0 (.string ⟨#[109,111,100]⟩) b fun a b=>
 CondV a (
 Ca 193 [p1,p2] b fun a b=>
 R (.returned (.tuple #[a,(nn 0)])) b) (
 Ca 194 [p1,p2] b fun a b=>
 R (.returned (.tuple #[a,(nn 0)])) b)))))
theorem Cv (h:A4 p0 p1 p2 w R):CC 182 #[p0,p1,p2] w R:=
  aw .leaf [p0,p1,p2] bo Tryz.func182 (by kernel_rfl) (by kernel_rfl) h

def p6:V3:=fun p0 p1 p2 w R=>
 Bb .eql 9 p0 (.string ⟨#[60]⟩) w fun a b=>
 CondV a (
 Ba .lss 3 p1 p2 b fun a b=>
 R (.returned a) b) (
 Bb .eql 9 p0 (.string ⟨#[62]⟩) b fun a b=>
 CondV a (
 Ba .gtr 3 p1 p2 b fun a b=>
 R (.returned a) b) (
 Bb .eql 9 p0 (.string ⟨#[61,60]⟩) b fun a b=>
 CondV a (
 Ba .leq 3 p1 p2 b fun a b=>
 R (.returned a) b) (
 Bb .eql 9 p0 (.string ⟨#[62,61]⟩) b fun a b=>
 CondV a (
 Ba .geq 3 p1 p2 b fun a b=>
 R (.returned a) b) (
 Ba .eql 3 p1 p2 b fun a b=>
 R (.returned a) b))))
theorem vW (h:p6 p0 p1 p2 w R):CC 183 #[p0,p1,p2] w R:=
  aw .leaf [p0,p1,p2] bo Tryz.func183 (by kernel_rfl) (by kernel_rfl) h

def y9:V2:=fun p0 p1 w R=>
 (∃ (a:QP1) (b:QN1),a (nn 0) w/\
 ∀ c _ _ _ _ _ _ _ _ _ _ _ _ _:Value,∀ d:World,a c d->
 Ln 120 p0 d fun e f=>
 Ba .lss 3 c e f fun e f=>
 CondV e (
 Ia 120 p0 c f fun e f=>
 Ld 9 e f fun e f=>
 Ba .eql 9 e p1 f fun e f=>
 CondV e (
 R (.returned (.bool true)) f) (
 Bb .add 3 c (nn 1) f fun e f=>
 a e f/\b e f<b c d)) (
 R (.returned (.bool false)) f))
theorem Ak (h:y9 p0 p1 w R):CC 184 #[p0,p1] w R:=
  aw (.seq none .leaf (.seq none (.seq none .leaf (.one (.loop [5] .leaf))) .leaf)) [p0,p1] bo Tryz.func184 (by kernel_rfl) (by kernel_rfl) h

def pP (w:World) (R:Ending->World->Prop):Prop:=
 RR (av 120 15 [(0,(.string ⟨#[43]⟩)),(1,(.string ⟨#[45]⟩)),(2,(.string ⟨#[42]⟩)),(3,(.string ⟨#[47,47]⟩)),(4,(.string ⟨#[61]⟩)),(5,(.string ⟨#[92,61]⟩)),(6,(.string ⟨#[61,61]⟩)),(7,(.string ⟨#[60]⟩)),(8,(.string ⟨#[62]⟩)),(9,(.string ⟨#[61,60]⟩)),(10,(.string ⟨#[62,61]⟩)),(11,(.string ⟨#[61,58,61]⟩)),(12,(.string ⟨#[46]⟩)),(13,(.string ⟨#[91,93]⟩)),(14,(.string ⟨#[33]⟩))]) w fun a b=>
 R (.returned a) b
theorem vC {w:World} {R:Ending->World->Prop} (h:pP w R):Calls Tryz.prog 185 #[] w R:=
  aw .leaf [] bo Tryz.func185 (by kernel_rfl) (by kernel_rfl) h


def uP:V1:=fun p0 w R=>
 Bx 36 p0 w fun a b=>
 Ld 36 a b fun b c=>
 Ca 195 [b] c fun b c=>
 CondV b (
 Ld 36 a c fun a b=>
 Ca 196 [a] b fun a b=>
 R (.returned a) b) (
 Ld 36 a c fun b c=>
 Ca 197 [b] c fun b c=>
 CondV b (
 Fd 36 a 2 c fun b c=>
 Ld 9 b c fun b c=>
 Ca 117 [b] c fun b c=>
 (∃ d:QP1,(
 Bb .eql 3 b (nn 3) c fun a c=>
 CondV a (
 d (nn 2) c) (
 d b c))/\
 ∀ c _ _:Value,∀ e:World,d c e->
 (∃ d:NB->OM,d fF (.string ⟨#[]⟩) undef undef undef undef undef undef undef undef undef undef undef undef undef undef undef undef undef undef { e with drawn:=e.drawn+1 }/\(
 (∀ b:NB,b 0=false->∀ c e f g h i j k l m n o p q r s t u v x,d b c e f g h i j k l m n o p q r s t u v x->
 Fd 36 a 3 x fun a v=>
 d (ah b 0) c e f g h i j k l m n o p q r s t u a v)/\
 (∀ a:NB,a 1=false->a 0=true->∀ b c e f g h i j k l m n o p q r s t u v,d a b c e f g h i j k l m n o p q r s t u v->
 Ld 34 u v fun t v=>
 d (ah a 1) b c e f g h i j k l m n o p q r s t u v)/\
 (∀ a:NB,a 2=false->a 1=true->∀ b c e f g h i j k l m n o p q r s t u v,d a b c e f g h i j k l m n o p q r s t u v->
 Ia 34 t (nn 0) v fun s v=>
 d (ah a 2) b c e f g h i j k l m n o p q r s t u v)/\
 (∀ a:NB,a 3=false->a 2=true->∀ b c e f g h i j k l m n o p q r s t u v,d a b c e f g h i j k l m n o p q r s t u v->
 Ld 36 s v fun r v=>
 d (ah a 3) b c e f g h i j k l m n o p q r s t u v)/\
 (∀ a:NB,a 4=false->∀ b e f g h i j k l m n o p q r s t u v x,d a b e f g h i j k l m n o p q r s t u v x->
 d (ah a 4) b e f g h i j k l m n o p q c s t u v x)/\
 (∀ a:NB,a 5=false->a 3=true->a 4=true->∀ b c e f g h i j k l m n o p q r s t u v,d a b c e f g h i j k l m n o p q r s t u v->
 Ca 198 [r,q] v fun p v=>
 d (ah a 5) b c e f g h i j k l m n o p q r s t u v)/\
 (∀ b:NB,b 6=false->∀ c e f g h i j k l m n o p q r s t u v x,d b c e f g h i j k l m n o p q r s t u v x->
 Fd 36 a 2 x fun a p=>
 d (ah b 6) c e f g h i j k l m n o a q r s t u v p)/\
 (∀ a:NB,a 7=false->a 6=true->∀ b c e f g h i j k l m n o p q r s t u v,d a b c e f g h i j k l m n o p q r s t u v->
 Ld 9 o v fun n v=>
 d (ah a 7) b c e f g h i j k l m n o p q r s t u v)/\
 (∀ a:NB,a 8=false->a 7=true->a 5=true->∀ b c e f g h i j k l m n o p q r s t u v,d a b c e f g h i j k l m n o p q r s t u v->
 Ca 199 [n] v fun m v=>
 d (ah a 8) b c e f g h i j k l m n o p q r s t u v)/\
 (∀ a:NB,a 9=false->a 5=true->a 8=true->∀ b c e f g h i j k l m n o p q r s t u v,d a b c e f g h i j k l m n o p q r s t u v->
 Ba .add 9 p m v fun l v=>
 d (ah a 9) b c e f g h i j k l m n o p q r s t u v)/\
 (∀ b:NB,b 10=false->∀ c e f g h i j k l m n o p q r s t u v x,d b c e f g h i j k l m n o p q r s t u v x->
 Fd 36 a 3 x fun a l=>
 d (ah b 10) c e f g h i j k a m n o p q r s t u v l)/\
 (∀ a:NB,a 11=false->a 10=true->∀ b c e f g h i j k l m n o p q r s t u v,d a b c e f g h i j k l m n o p q r s t u v->
 Ld 34 k v fun j v=>
 d (ah a 11) b c e f g h i j k l m n o p q r s t u v)/\
 (∀ a:NB,a 12=false->a 11=true->∀ b c e f g h i j k l m n o p q r s t u v,d a b c e f g h i j k l m n o p q r s t u v->
 Ia 34 j (nn 1) v fun i v=>
 d (ah a 12) b c e f g h i j k l m n o p q r s t u v)/\
 (∀ a:NB,a 13=false->a 12=true->∀ b c e f g h i j k l m n o p q r s t u v,d a b c e f g h i j k l m n o p q r s t u v->
 Ld 36 i v fun h v=>
 d (ah a 13) b c e f g h i j k l m n o p q r s t u v)/\
 (∀ a:NB,a 14=false->∀ c e f g h i j k l m n o p q r s t u v x,d a c e f g h i j k l m n o p q r s t u v x->
 d (ah a 14) c e f g b i j k l m n o p q r s t u v x)/\
 (∀ a:NB,a 15=false->a 14=true->∀ b c e f g h i j k l m n o p q r s t u v,d a b c e f g h i j k l m n o p q r s t u v->
 Bb .sub 3 g (nn 1) v fun f v=>
 d (ah a 15) b c e f g h i j k l m n o p q r s t u v)/\
 (∀ a:NB,a 16=false->a 13=true->a 15=true->a 8=true->∀ b c e f g h i j k l m n o p q r s t u v,d a b c e f g h i j k l m n o p q r s t u v->
 Ca 200 [h,f] v fun e v=>
 d (ah a 16) b c e f g h i j k l m n o p q r s t u v)/\
 (∀ a:NB,a 17=false->a 9=true->a 16=true->∀ b c e f g h i j k l m n o p q r s t u v,d a b c e f g h i j k l m n o p q r s t u v->
 Ba .add 9 l e v fun c v=>
 d (ah a 17) b c e f g h i j k l m n o p q r s t u v)/\
 (∀ a:NB,a 18=false->a 17=true->a 16=true->a 0=true->a 1=true->a 2=true->a 3=true->a 4=true->a 5=true->a 6=true->a 7=true->a 8=true->a 9=true->a 10=true->a 11=true->a 12=true->a 13=true->a 14=true->a 15=true->a 16=true->a 17=true->∀ b c e f g h i j k l m n o p q r s t u v,d a b c e f g h i j k l m n o p q r s t u v->
 d (ah a 18) c c e f g h i j k l m n o p q r s t u v)/\
 True)/\
 ∀ a:NB,a 18=true->a 17=true->a 16=true->a 15=true->a 14=true->a 13=true->a 12=true->a 11=true->a 10=true->a 9=true->a 8=true->a 7=true->a 6=true->a 5=true->a 4=true->a 3=true->a 2=true->a 1=true->a 0=true->∀ b c e f g h i j k l m n o p q r s t u v,d a b c e f g h i j k l m n o p q r s t u v->
 R (.returned b) v))) (
 (∃ b:QP1,(
 Fd 36 a 0 c fun c d=>
 Ld 3 c d fun c d=>
 Bb .eql 3 c (nn 3) d fun c d=>
 ag c true (
 Fd 36 a 3 d fun a d=>
 Ld 34 a d fun a d=>
 Ln 34 a d fun a d=>
 Bb .gtr 3 a (nn 0) d fun a d=>
 Pk c a (.bool false) d fun a c=>
 b a c) (
 Pk c undef (.bool false) d fun a c=>
 b a c))/\
 ∀ c _ _ _ _ _ _ _ _ _:Value,∀ d:World,b c d->
 CondV c (
 (∃ b:NB->QP9,b fF (.string ⟨#[]⟩) undef undef undef undef undef undef undef undef { d with drawn:=d.drawn+1 }/\(
 (∀ c:NB,c 0=false->∀ d e f g h i j k l m,b c d e f g h i j k l m->
 Fd 36 a 2 m fun a l=>
 b (ah c 0) d e f g h i j k a l)/\
 (∀ a:NB,a 1=false->a 0=true->∀ c d e f g h i j k l,b a c d e f g h i j k l->
 Ld 9 k l fun j l=>
 b (ah a 1) c d e f g h i j k l)/\
 (∀ a:NB,a 2=false->a 1=true->∀ c d e f g h i j k l,b a c d e f g h i j k l->
 Bb .add 9 j (.string ⟨#[40]⟩) l fun i l=>
 b (ah a 2) c d e f g h i j k l)/\
 (∀ c:NB,c 3=false->∀ d e f g h i j k l m,b c d e f g h i j k l m->
 Fd 36 a 3 m fun a i=>
 b (ah c 3) d e f g h a j k l i)/\
 (∀ a:NB,a 4=false->a 3=true->∀ c d e f g h i j k l,b a c d e f g h i j k l->
 Ld 34 h l fun g l=>
 b (ah a 4) c d e f g h i j k l)/\
 (∀ a:NB,a 5=false->a 4=true->∀ c d e f g h i j k l,b a c d e f g h i j k l->
 Ca 201 [g] l fun f l=>
 b (ah a 5) c d e f g h i j k l)/\
 (∀ a:NB,a 6=false->a 2=true->a 5=true->∀ c d e f g h i j k l,b a c d e f g h i j k l->
 Ba .add 9 i f l fun e l=>
 b (ah a 6) c d e f g h i j k l)/\
 (∀ a:NB,a 7=false->a 6=true->∀ c d e f g h i j k l,b a c d e f g h i j k l->
 Bb .add 9 e (.string ⟨#[41]⟩) l fun d l=>
 b (ah a 7) c d e f g h i j k l)/\
 (∀ a:NB,a 8=false->a 7=true->a 5=true->a 0=true->a 1=true->a 2=true->a 3=true->a 4=true->a 5=true->a 6=true->a 7=true->∀ c d e f g h i j k l,b a c d e f g h i j k l->
 b (ah a 8) d d e f g h i j k l)/\
 True)/\
 ∀ a:NB,a 8=true->a 7=true->a 6=true->a 5=true->a 4=true->a 3=true->a 2=true->a 1=true->a 0=true->∀ c d e f g h i j k l,b a c d e f g h i j k l->
 R (.returned c) l)) (
 Ld 36 a d fun a b=>
 Ca 202 [a] b fun a b=>
 R (.returned a) b))))
theorem yP (h:uP p0 w R):CC 187 #[p0] w R:=
  aw (.seq none .leaf (.seq none (.one (.seq none .leaf (.two .leaf (.seq none .leaf (.two (.seq none .leaf (.seq none .leaf (.seq (some [4]) .leaf .leaf))) (.seq (some [37]) .leaf .leaf)))))) .leaf)) [p0] bo Tryz.func187 (by kernel_rfl) (by kernel_rfl) h

def rP:V2:=fun p0 p1 w R=>
 Bx 36 p1 w fun a b=>
 Al 36 b fun b c=>
 Ld 36 a c fun a c=>
 Al 36 c fun c d=>
 St 36 c a d fun _ a=>
 Ln 34 p0 a fun a d=>
 Bb .sub 3 a (nn 1) d fun a d=>
 (∃ (e:QP1) (f:QN1),e a d/\
 ∀ a _ _ d g h i j k l _ _:Value,∀ m:World,e a m->
 Bb .geq 3 a (nn 0) m fun n o=>
 CondV n (
 (∃ b:NB->QP7,b fF d g h i j k l { o with drawn:=o.drawn+1 }/\(
 (∀ a:NB,a 0=false->∀ c d e f g h i j,b a c d e f g h i j->
 b (ah a 0) c d e f g h p0 j)/\
 (∀ c:NB,c 1=false->∀ d e f g h i j k,b c d e f g h i j k->
 b (ah c 1) d e f g h a j k)/\
 (∀ a:NB,a 2=false->a 0=true->a 1=true->∀ c d e f g h i j,b a c d e f g h i j->
 Ia 34 i h j fun g j=>
 b (ah a 2) c d e f g h i j)/\
 (∀ a:NB,a 3=false->a 2=true->∀ c d e f g h i j,b a c d e f g h i j->
 Ld 36 g j fun f j=>
 b (ah a 3) c d e f g h i j)/\
 (∀ a:NB,a 4=false->∀ d e f g h i j k,b a d e f g h i j k->
 Ld 36 c k fun c f=>
 b (ah a 4) d e c g h i j f)/\
 (∀ a:NB,a 5=false->a 3=true->a 4=true->∀ c d e f g h i j,b a c d e f g h i j->
 RR (av 34 2 [(0,f),(1,e)]) j fun d j=>
 b (ah a 5) c d e f g h i j)/\
 (∀ a:NB,a 6=false->a 5=true->∀ c d e f g h i j,b a c d e f g h i j->
 Ca 70 [(.string ⟨#[46]⟩),d] j fun c j=>
 b (ah a 6) c d e f g h i j)/\
 (∀ a:NB,a 7=false->a 6=true->a 6=true->a 0=true->a 1=true->a 2=true->a 3=true->a 4=true->a 5=true->a 6=true->∀ d e f g h i j k,b a d e f g h i j k->
 St 36 c d k fun _ c=>
 b (ah a 7) d e f g h i j c)/\
 True)/\
 ∀ c:NB,c 7=true->c 6=true->c 5=true->c 4=true->c 3=true->c 2=true->c 1=true->c 0=true->∀ d g h i j k l n,b c d g h i j k l n->
 Bb .sub 3 a (nn 1) n fun b c=>
 e b c/\f b c<f a m)) (
 Ld 36 c o fun a c=>
 St 36 b a c fun _ a=>
 (aO Tryz.prog 36 b a fun b=>R (.returned b) a)))
theorem vM (h:rP p0 p1 w R):CC 188 #[p0,p1] w R:=
  aw (.seq none .leaf (.seq none .leaf (.seq none (.seq none .leaf (.one (.loop [6] .leaf))) .leaf))) [p0,p1] bo Tryz.func188 (by kernel_rfl) (by kernel_rfl) h

def ue:V1:=fun p0 w R=>
 (∃ a:QP1,(
 Ln 9 p0 w fun b c=>
 Bb .gtr 3 b (nn 0) c fun b c=>
 ag b true (
 Ix 9 p0 (nn 0) 5 c fun c d=>
 Bb .eql 5 c (.int .u8 45) d fun c d=>
 Pk b c (.bool false) d fun b c=>
 a b c) (
 Pk b undef (.bool false) c fun b c=>
 a b c))/\
 ∀ b _ _ _ _ _ _ _ _:Value,∀ c:World,a b c->
 (∃ a:QP1,(
 CondV b (
 RR (sOp (.slice 9 (.const p0) (some (.const (nn 1))) none none) 9) c fun b c=>
 a b c) (
 a p0 c))/\
 ∀ c _ _ _:Value,∀ d:World,a c d->
 (∃ a:QP1,(
 Ln 9 c d fun d e=>
 Bb .eql 3 d (nn 0) e fun d e=>
 ((fun a:VW=>ag d false (
 Ln 9 c e fun b c=>
 Bb .gtr 3 b (nn 17) c fun b c=>
 Pk d (.bool true) b c fun b c=>a b c) (
 Pk d (.bool true) undef e fun b c=>a b c)) fun d e=>
 ag d false (
 Ix 9 c (nn 0) 5 e fun e f=>
 Bb .eql 5 e (.int .u8 48) f fun e f=>
 ag e true (
 Ln 9 c f fun c f=>
 Bb .gtr 3 c (nn 1) f fun c f=>
 ag c false (
 ag e true (
 Pk c (.bool true) b f fun b c=>
 ag d false (
 Pk e b (.bool false) c fun b c=>
 Pk d (.bool true) b c fun b c=>
 a b c) (
 Pk d (.bool true) undef c fun b c=>
 a b c)) (
 ag d false (
 Pk e undef (.bool false) f fun b c=>
 Pk d (.bool true) b c fun b c=>
 a b c) (
 Pk d (.bool true) undef f fun b c=>
 a b c))) (
 ag e true (
 Pk c (.bool true) undef f fun b c=>
 ag d false (
 Pk e b (.bool false) c fun b c=>
 Pk d (.bool true) b c fun b c=>
 a b c) (
 Pk d (.bool true) undef c fun b c=>
 a b c)) (
 ag d false (
 Pk e undef (.bool false) f fun b c=>
 Pk d (.bool true) b c fun b c=>
 a b c) (
 Pk d (.bool true) undef f fun b c=>
 a b c)))) (
 ag undef false (
 ag e true (
 Pk undef (.bool true) b f fun b c=>
 ag d false (
 Pk e b (.bool false) c fun b c=>
 Pk d (.bool true) b c fun b c=>
 a b c) (
 Pk d (.bool true) undef c fun b c=>
 a b c)) (
 ag d false (
 Pk e undef (.bool false) f fun b c=>
 Pk d (.bool true) b c fun b c=>
 a b c) (
 Pk d (.bool true) undef f fun b c=>
 a b c))) (
 ag e true (
 Pk undef (.bool true) undef f fun b c=>
 ag d false (
 Pk e b (.bool false) c fun b c=>
 Pk d (.bool true) b c fun b c=>
 a b c) (
 Pk d (.bool true) undef c fun b c=>
 a b c)) (
 ag d false (
 Pk e undef (.bool false) f fun b c=>
 Pk d (.bool true) b c fun b c=>
 a b c) (
 Pk d (.bool true) undef f fun b c=>
 a b c))))) (
 ag undef true (
 Ln 9 c e fun c e=>
 Bb .gtr 3 c (nn 1) e fun c e=>
 ag c false (
 ag undef true (
 Pk c (.bool true) b e fun b c=>
 ag d false (
 Pk undef b (.bool false) c fun b c=>
 Pk d (.bool true) b c fun b c=>
 a b c) (
 Pk d (.bool true) undef c fun b c=>
 a b c)) (
 ag d false (
 Pk undef undef (.bool false) e fun b c=>
 Pk d (.bool true) b c fun b c=>
 a b c) (
 Pk d (.bool true) undef e fun b c=>
 a b c))) (
 ag undef true (
 Pk c (.bool true) undef e fun b c=>
 ag d false (
 Pk undef b (.bool false) c fun b c=>
 Pk d (.bool true) b c fun b c=>
 a b c) (
 Pk d (.bool true) undef c fun b c=>
 a b c)) (
 ag d false (
 Pk undef undef (.bool false) e fun b c=>
 Pk d (.bool true) b c fun b c=>
 a b c) (
 Pk d (.bool true) undef e fun b c=>
 a b c)))) (
 ag undef false (
 ag undef true (
 Pk undef (.bool true) b e fun b c=>
 ag d false (
 Pk undef b (.bool false) c fun b c=>
 Pk d (.bool true) b c fun b c=>
 a b c) (
 Pk d (.bool true) undef c fun b c=>
 a b c)) (
 ag d false (
 Pk undef undef (.bool false) e fun b c=>
 Pk d (.bool true) b c fun b c=>
 a b c) (
 Pk d (.bool true) undef e fun b c=>
 a b c))) (
 ag undef true (
 Pk undef (.bool true) undef e fun b c=>
 ag d false (
 Pk undef b (.bool false) c fun b c=>
 Pk d (.bool true) b c fun b c=>
 a b c) (
 Pk d (.bool true) undef c fun b c=>
 a b c)) (
 ag d false (
 Pk undef undef (.bool false) e fun b c=>
 Pk d (.bool true) b c fun b c=>
 a b c) (
 Pk d (.bool true) undef e fun b c=>
 a b c)))))))/\
 ∀ d _ _ _ _ _ _ _ _ _ _ _ _ _ _ _ _ _ _ _ _:Value,∀ e:World,a d e->
 CondV d (
 R (.returned (.tuple #[(nn 0),(.bool false)])) e) (
 (∃ (a:QP2) (d:QN2),a (nn 0) (nn 0) e/\
 ∀ e _ _ f _ _ _ _ _ _ _ _ _ _ _ _ _ _ _ _ _ _ _ _ _ _ _ _:Value,∀ g:World,a e f g->
 Ln 9 c g fun h i=>
 Ba .lss 3 e h i fun h i=>
 CondV h (
 (∃ b:QP1,(
 Ix 9 c e 5 i fun a d=>
 Bb .lss 5 a (.int .u8 48) d fun a d=>
 ag a false (
 Ix 9 c e 5 d fun c d=>
 Bb .gtr 5 c (.int .u8 57) d fun c d=>
 Pk a (.bool true) c d fun a c=>
 b a c) (
 Pk a (.bool true) undef d fun a c=>
 b a c))/\
 ∀ h _ _ _ _ _ _ _ _ _:Value,∀ i:World,b h i->
 CondV h (
 R (.returned (.tuple #[(nn 0),(.bool false)])) i) (
 Bb .mul 3 f (nn 10) i fun b h=>
 Ix 9 c e 5 h fun c h=>
 Bb .sub 5 c (.int .u8 48) h fun c h=>
 RR (sOp (.convert 5 3 (.const c)) 3) h fun c h=>
 Ba .add 3 b c h fun b c=>
 Bb .add 3 e (nn 1) c fun c h=>
 a c b h/\d c b h<d e f g))) (
 (∃ a:QP1,(
 CondV b (
 RR (sOp (.unOp .neg 3 (.const f)) 3) i fun b c=>
 a b c) (
 a f i))/\
 ∀ b _ _ _:Value,∀ c:World,a b c->
 R (.returned (.tuple #[b,(.bool true)])) c)))))))
theorem xY (h:ue p0 w R):CC 189 #[p0] w R:=
  aw (.seq none .leaf (.seq (some [4]) .leaf (.seq (some [0]) .leaf (.seq none (.seq (some [38]) .leaf .leaf) (.seq none .leaf (.seq none (.seq none .leaf (.one (.loop [6,5] (.seq none .leaf (.seq none (.one (.seq none (.seq (some [54]) .leaf .leaf) .leaf)) .leaf))))) (.seq (some [5]) .leaf .leaf))))))) [p0] bo Tryz.func189 (by kernel_rfl) (by kernel_rfl) h

def si:V2:=fun p0 p1 w R=>
 Bb .geq 3 p1 (nn 0) w fun a b=>
 ((fun c:VW=>ag a true (
 Ln 9 p0 b fun b d=>
 Ba .lss 3 p1 b d fun b d=>
 Pk a b (.bool false) d fun a b=>c a b) (
 Pk a undef (.bool false) b fun a b=>c a b)) fun a b=>
 ((fun c:VW=>ag a true (
 Ix 9 p0 p1 5 b fun b d=>
 Bb .geq 5 b (.int .u8 97) d fun b d=>
 Pk a b (.bool false) d fun a b=>c a b) (
 Pk a undef (.bool false) b fun a b=>c a b)) fun a b=>
 ag a true (
 Ix 9 p0 p1 5 b fun b c=>
 Bb .leq 5 b (.int .u8 122) c fun b c=>
 Pk a b (.bool false) c fun a b=>
 R (.returned a) b) (
 Pk a undef (.bool false) b fun a b=>
 R (.returned a) b)))
theorem vN (h:si p0 p1 w R):CC 190 #[p0,p1] w R:=
  aw .leaf [p0,p1] bo Tryz.func190 (by kernel_rfl) (by kernel_rfl) h

def rE:V1:=fun p0 w R=>
 Bx 56 p0 w fun a b=>
 Fd 56 a 0 b fun b c=>
 Ld 36 b c fun b c=>
 RR (av 34 1 [(0,b)]) c fun b c=>
 Fd 56 a 1 c fun a c=>
 Ld 34 a c fun a c=>
 RR (bx .append #[34,34] 34 [false,false] [b,a]) c fun a b=>
 Ca 203 [a] b fun a b=>
 (∃ (c:QP2) (d:QN2),c (nn 0) (nn 0) b/\
 ∀ b _ _ e _ _ _ _ _ _ _ _ _ _ _ _ _ _ _:Value,∀ f:World,c b e f->
 Ln 49 a f fun g h=>
 Ba .lss 3 b g h fun g h=>
 CondV g (
 (∃ g:QP1,(
 Ia 49 a b h fun c d=>
 Ld 3 c d fun c d=>
 Ba .geq 3 c e d fun c d=>
 CondV c (
 Ia 49 a b d fun a b=>
 Ld 3 a b fun a b=>
 Bb .add 3 a (nn 1) b fun a b=>
 g a b) (
 g e d))/\
 ∀ a _ _ _ _ _ _ _ _ _ _ _:Value,∀ h:World,g a h->
 Bb .add 3 b (nn 1) h fun g h=>
 c g a h/\d g a h<d b e f)) (
 R (.returned e) h))
theorem wy (h:rE p0 w R):CC 191 #[p0] w R:=
  aw (.seq none .leaf (.seq none .leaf (.seq none .leaf (.seq none (.seq none .leaf (.one (.loop [5,4] (.seq none .leaf (.seq (some [4]) .leaf .leaf))))) .leaf)))) [p0] bo Tryz.func191 (by kernel_rfl) (by kernel_rfl) h

def oo:V1:=fun p0 w R=>
 (∃ a:QP1,(
 Bb .lss 3 p0 (.int .i64 (-999)) w fun b c=>
 ag b false (
 Bb .gtr 3 p0 (nn 999) c fun c d=>
 Pk b (.bool true) c d fun b c=>
 a b c) (
 Pk b (.bool true) undef c fun b c=>
 a b c))/\
 ∀ b _ _ _ _ _:Value,∀ c:World,a b c->
 CondV b (
 R (.returned (.tuple #[(nn 0),(nn 5)])) c) (
 R (.returned (.tuple #[p0,(nn 0)])) c))
theorem sQ (h:oo p0 w R):CC 192 #[p0] w R:=
  aw (.seq none .leaf (.seq none (.seq (some [9]) .leaf .leaf) .leaf)) [p0] bo Tryz.func192 (by kernel_rfl) (by kernel_rfl) h

def yx:V2:=fun p0 p1 w R=>
 Ba .rem 3 p0 p1 w fun a b=>
 (∃ c:QP1,(
 (∃ d:QP1,(
 Bb .neq 3 a (nn 0) b fun b c=>
 ag b true (
 Bb .lss 3 a (nn 0) c fun a c=>
 Bb .lss 3 p1 (nn 0) c fun c e=>
 Ba .neq 4 a c e fun a c=>
 Pk b a (.bool false) c fun a b=>
 d a b) (
 Pk b undef (.bool false) c fun a b=>
 d a b))/\
 ∀ b _ _ _ _ _ _ _ _:Value,∀ e:World,d b e->
 CondV b (
 Ba .add 3 a p1 e fun a b=>
 c a b) (
 c a e)))/\
 ∀ a _ _ _ _ _ _ _ _ _ _ _ _:Value,∀ b:World,c a b->
 R (.returned a) b)
theorem AF (h:yx p0 p1 w R):CC 193 #[p0,p1] w R:=
  aw (.seq none .leaf (.seq none .leaf (.seq (some [5]) (.seq (some [17]) .leaf .leaf) .leaf))) [p0,p1] bo Tryz.func193 (by kernel_rfl) (by kernel_rfl) h

def yC:V2:=fun p0 p1 w R=>
 Ba .quo 3 p0 p1 w fun a b=>
 R (.returned a) b
theorem Ad (h:yC p0 p1 w R):CC 194 #[p0,p1] w R:=
  aw .leaf [p0,p1] bo Tryz.func194 (by kernel_rfl) (by kernel_rfl) h

def ug:V1:=fun p0 w R=>
 Bx 36 p0 w fun a b=>
 Fd 36 a 0 b fun b c=>
 Ld 3 b c fun b c=>
 Bb .eql 3 b (nn 3) c fun b c=>
 ((fun d:VW=>ag b true (
 Fd 36 a 2 c fun a c=>
 Ld 9 a c fun a c=>
 Bb .eql 9 a (.string ⟨#[46]⟩) c fun a c=>
 Pk b a (.bool false) c fun a b=>d a b) (
 Pk b undef (.bool false) c fun a b=>d a b)) fun b c=>
 ag b true (
 Fd 36 a 3 c fun a c=>
 Ld 34 a c fun a c=>
 Ln 34 a c fun a c=>
 Bb .eql 3 a (nn 2) c fun a c=>
 Pk b a (.bool false) c fun a b=>
 R (.returned a) b) (
 Pk b undef (.bool false) c fun a b=>
 R (.returned a) b))
theorem yq (h:ug p0 w R):CC 195 #[p0] w R:=
  aw .leaf [p0] bo Tryz.func195 (by kernel_rfl) (by kernel_rfl) h

def uf:V1:=fun p0 w R=>
 Bx 36 p0 w fun a b=>
 RR (av 34 0 []) b fun b c=>
 (∃ (d:QP1) (e:QN1),d b c/\
 ∀ _ _ _ _ b _ _ _ _ _ _ _ _ _:Value,∀ c:World,d b c->
 Ld 36 a c fun f g=>
 Ca 195 [f] g fun f g=>
 CondV f (
 Fd 36 a 3 g fun f g=>
 Ld 34 f g fun f g=>
 Ia 34 f (nn 0) g fun f g=>
 Ld 36 f g fun f g=>
 RR (av 34 1 [(0,f)]) g fun f g=>
 RR (bx .append #[34,34] 34 [false,false] [b,f]) g fun f g=>
 Fd 36 a 3 g fun g h=>
 Ld 34 g h fun g h=>
 Ia 34 g (nn 1) h fun g h=>
 Ld 36 g h fun g h=>
 St 36 a g h fun _ a=>
 d f a/\e f a<e b c) (
 Ld 36 a g fun c d=>
 Ca 204 [c] d fun c d=>
 CondV c (
 Ca 201 [b] d fun a b=>
 Bc .add 9 (.string ⟨#[91]⟩) a b fun a b=>
 Bb .add 9 a (.string ⟨#[93]⟩) b fun a b=>
 R (.returned a) b) (
 (∃ c:NB->QP9,c fF (.string ⟨#[]⟩) undef undef undef undef undef undef undef undef { d with drawn:=d.drawn+1 }/\(
 (∀ a:NB,a 0=false->∀ d e f g h i j k l m,c a d e f g h i j k l m->
 c (ah a 0) d e f g h i j k b m)/\
 (∀ a:NB,a 1=false->a 0=true->∀ b d e f g h i j k l,c a b d e f g h i j k l->
 Ca 201 [k] l fun j l=>
 c (ah a 1) b d e f g h i j k l)/\
 (∀ a:NB,a 2=false->a 1=true->∀ b d e f g h i j k l,c a b d e f g h i j k l->
 Bc .add 9 (.string ⟨#[91]⟩) j l fun i l=>
 c (ah a 2) b d e f g h i j k l)/\
 (∀ a:NB,a 3=false->a 2=true->∀ b d e f g h i j k l,c a b d e f g h i j k l->
 Bb .add 9 i (.string ⟨#[124]⟩) l fun h l=>
 c (ah a 3) b d e f g h i j k l)/\
 (∀ b:NB,b 4=false->∀ d e f g h i j k l m,c b d e f g h i j k l m->
 Ld 36 a m fun a h=>
 c (ah b 4) d e f g a i j k l h)/\
 (∀ a:NB,a 5=false->a 4=true->a 1=true->∀ b d e f g h i j k l,c a b d e f g h i j k l->
 Ca 187 [g] l fun f l=>
 c (ah a 5) b d e f g h i j k l)/\
 (∀ a:NB,a 6=false->a 3=true->a 5=true->∀ b d e f g h i j k l,c a b d e f g h i j k l->
 Ba .add 9 h f l fun e l=>
 c (ah a 6) b d e f g h i j k l)/\
 (∀ a:NB,a 7=false->a 6=true->∀ b d e f g h i j k l,c a b d e f g h i j k l->
 Bb .add 9 e (.string ⟨#[93]⟩) l fun d l=>
 c (ah a 7) b d e f g h i j k l)/\
 (∀ a:NB,a 8=false->a 7=true->a 5=true->a 0=true->a 1=true->a 2=true->a 3=true->a 4=true->a 5=true->a 6=true->a 7=true->∀ b d e f g h i j k l,c a b d e f g h i j k l->
 c (ah a 8) d d e f g h i j k l)/\
 True)/\
 ∀ a:NB,a 8=true->a 7=true->a 6=true->a 5=true->a 4=true->a 3=true->a 2=true->a 1=true->a 0=true->∀ b d e f g h i j k l,c a b d e f g h i j k l->
 R (.returned b) l))))
theorem xG (h:uf p0 w R):CC 196 #[p0] w R:=
  aw (.seq none .leaf (.seq none .leaf (.seq none (.one (.loop [3] .leaf)) .leaf))) [p0] bo Tryz.func196 (by kernel_rfl) (by kernel_rfl) h

def sB:V1:=fun p0 w R=>
 Bx 36 p0 w fun a b=>
 Fd 36 a 0 b fun b c=>
 Ld 3 b c fun b c=>
 Bb .eql 3 b (nn 3) c fun b c=>
 ((fun d:VW=>ag b true (
 Fd 36 a 3 c fun a c=>
 Ld 34 a c fun a c=>
 Ln 34 a c fun a c=>
 Bb .eql 3 a (nn 2) c fun a c=>
 Pk b a (.bool false) c fun a b=>d a b) (
 Pk b undef (.bool false) c fun a b=>d a b)) fun b c=>
 ag b true (
 Fd 36 a 2 c fun a c=>
 Ld 9 a c fun a c=>
 Ca 117 [a] c fun a c=>
 Bb .gtr 3 a (nn 0) c fun a c=>
 Pk b a (.bool false) c fun a b=>
 R (.returned a) b) (
 Pk b undef (.bool false) c fun a b=>
 R (.returned a) b))
theorem vX (h:sB p0 w R):CC 197 #[p0] w R:=
  aw .leaf [p0] bo Tryz.func197 (by kernel_rfl) (by kernel_rfl) h

def uZ:V2:=fun p0 p1 w R=>
 Bx 36 p0 w fun a b=>
 Ld 36 a b fun b c=>
 Ca 205 [b] c fun b c=>
 CondV b (
 Ld 36 a c fun a b=>
 Ca 187 [a] b fun a b=>
 Bc .add 9 (.string ⟨#[40]⟩) a b fun a b=>
 Bb .add 9 a (.string ⟨#[41]⟩) b fun a b=>
 R (.returned a) b) (
 Ld 36 a c fun a b=>
 Ca 206 [a,p1] b fun a b=>
 R (.returned a) b)
theorem yX (h:uZ p0 p1 w R):CC 198 #[p0,p1] w R:=
  aw .leaf [p0,p1] bo Tryz.func198 (by kernel_rfl) (by kernel_rfl) h

def oO:V1:=fun p0 w R=>
 (∃ a:QP1,(
 Bb .eql 9 p0 (.string ⟨#[105,115]⟩) w fun b c=>
 ag b false (
 Bb .eql 9 p0 (.string ⟨#[109,111,100]⟩) c fun c d=>
 Pk b (.bool true) c d fun b c=>
 a b c) (
 Pk b (.bool true) undef c fun b c=>
 a b c))/\
 ∀ b _ _ _ _ _:Value,∀ c:World,a b c->
 CondV b (
 Bc .add 9 (.string ⟨#[32]⟩) p0 c fun a b=>
 Bb .add 9 a (.string ⟨#[32]⟩) b fun a b=>
 R (.returned a) b) (
 R (.returned p0) c))
theorem sX (h:oO p0 w R):CC 199 #[p0] w R:=
  aw (.seq none .leaf (.seq none (.seq (some [8]) .leaf .leaf) .leaf)) [p0] bo Tryz.func199 (by kernel_rfl) (by kernel_rfl) h

def sn:V2:=fun p0 p1 w R=>
 Bx 36 p0 w fun a b=>
 Ld 36 a b fun b c=>
 Ca 206 [b,p1] c fun b c=>
 (∃ d:QP1,(
 Ld 36 a c fun a c=>
 Ca 205 [a] c fun a c=>
 ag a false (
 Ca 207 [b] c fun b c=>
 Nt b c fun b c=>
 Pk a (.bool true) b c fun a b=>
 d a b) (
 Pk a (.bool true) undef c fun a b=>
 d a b))/\
 ∀ a _ _ _ _ _ _:Value,∀ c:World,d a c->
 CondV a (
 Bc .add 9 (.string ⟨#[40]⟩) b c fun a b=>
 Bb .add 9 a (.string ⟨#[41]⟩) b fun a b=>
 R (.returned a) b) (
 R (.returned b) c))
theorem wz (h:sn p0 p1 w R):CC 200 #[p0,p1] w R:=
  aw (.seq none .leaf (.seq none .leaf (.seq none (.seq (some [15]) .leaf .leaf) .leaf))) [p0,p1] bo Tryz.func200 (by kernel_rfl) (by kernel_rfl) h

def u0:V1:=fun p0 w R=>
 (∃ (a:QP2) (b:QN2),a (nn 0) (.string ⟨#[]⟩) w/\
 ∀ c _ _ _ _ _ _ _ _ _ d _ _ _ _ _ _ _ _:Value,∀ e:World,a c d e->
 Ln 34 p0 e fun f g=>
 Ba .lss 3 c f g fun f g=>
 CondV f (
 (∃ f:QP1,(
 Bb .gtr 3 c (nn 0) g fun a b=>
 CondV a (
 Bb .add 9 d (.string ⟨#[44]⟩) b fun a b=>
 f a b) (
 f d b))/\
 ∀ g _ _ _ _:Value,∀ h:World,f g h->
 Ia 34 p0 c h fun f h=>
 Ld 36 f h fun f h=>
 Ca 187 [f] h fun f h=>
 Ba .add 9 g f h fun f g=>
 Bb .add 3 c (nn 1) g fun g h=>
 a g f h/\b g f h<b c d e)) (
 R (.returned d) g))
theorem zi (h:u0 p0 w R):CC 201 #[p0] w R:=
  aw (.seq none .leaf (.seq none .leaf (.seq none (.seq none .leaf (.one (.loop [4,3] (.seq none .leaf (.seq none (.one (.seq (some [3]) .leaf .leaf)) .leaf))))) .leaf))) [p0] bo Tryz.func201 (by kernel_rfl) (by kernel_rfl) h

def ve:V1:=fun p0 w R=>
 Bx 36 p0 w fun a b=>
 Fd 36 a 0 b fun b c=>
 Ld 3 b c fun b c=>
 Bb .eql 3 b (nn 1) c fun c d=>
 CondV c (
 Fd 36 a 1 d fun a b=>
 Ld 3 a b fun a b=>
 Ca 208 [a] b fun a b=>
 R (.returned a) b) (
 Bb .eql 3 b (nn 2) d fun b c=>
 CondV b (
 Fd 36 a 1 c fun a b=>
 Ld 3 a b fun a b=>
 Ca 209 [a] b fun a b=>
 R (.returned a) b) (
 Ld 36 a c fun b c=>
 Ca 195 [b] c fun b c=>
 CondV b (
 Ld 36 a c fun a b=>
 Ca 210 [a] b fun a b=>
 R (.returned a) b) (
 Fd 36 a 2 c fun b c=>
 Ld 9 b c fun b c=>
 (∃ (d:QP2) (e:QN2),d (nn 0) b c/\
 ∀ b _ _ _ _ _ _ _ _ _ _ _ _ c _ _ _ _ _ _ _ _ _:Value,∀ f:World,d b c f->
 Fd 36 a 3 f fun g h=>
 Ld 34 g h fun g h=>
 Ln 34 g h fun g h=>
 Ba .lss 3 b g h fun g h=>
 CondV g (
 (∃ g:QP1,(
 Bb .eql 3 b (nn 0) h fun a b=>
 CondV a (
 Bb .add 9 c (.string ⟨#[40]⟩) b fun a b=>
 g a b) (
 Bb .add 9 c (.string ⟨#[44]⟩) b fun a b=>
 g a b))/\
 ∀ _ _ h _ _ _ _:Value,∀ i:World,g h i->
 Fd 36 a 3 i fun a g=>
 Ld 34 a g fun a g=>
 Ia 34 a b g fun a g=>
 Ld 36 a g fun a g=>
 Ca 202 [a] g fun a g=>
 Ba .add 9 h a g fun a g=>
 Bb .add 3 b (nn 1) g fun g h=>
 d g a h/\e g a h<e b c f)) (
 (∃ b:QP1,(
 Fd 36 a 3 h fun a d=>
 Ld 34 a d fun a d=>
 Ln 34 a d fun a d=>
 Bb .gtr 3 a (nn 0) d fun a d=>
 CondV a (
 Bb .add 9 c (.string ⟨#[41]⟩) d fun a c=>
 b a c) (
 b c d))/\
 ∀ a _ _ _ _ _ _:Value,∀ c:World,b a c->
 R (.returned a) c))))))
theorem yv (h:ve p0 w R):CC 202 #[p0] w R:=
  aw (.seq none .leaf (.seq none .leaf (.seq none .leaf (.seq none .leaf (.seq none (.seq none .leaf (.one (.loop [4,3] (.seq none .leaf (.seq none (.one (.seq (some [3]) .leaf .leaf)) .leaf))))) (.seq (some [3]) .leaf .leaf)))))) [p0] bo Tryz.func202 (by kernel_rfl) (by kernel_rfl) h

def ur:V1:=fun p0 w R=>
 RR (av 49 0 []) w fun a b=>
 (∃ (c:QP2) (d:QN2),c (nn 0) a b/\
 ∀ a _ _ b _ _ _ _ _ _ _ _ _ _:Value,∀ e:World,c a b e->
 Ln 34 p0 e fun f g=>
 Ba .lss 3 a f g fun f g=>
 CondV f (
 Ia 34 p0 a g fun f g=>
 Ld 36 f g fun f g=>
 Ca 140 [b,f] g fun f g=>
 Bb .add 3 a (nn 1) g fun g h=>
 c g f h/\d g f h<d a b e) (
 R (.returned b) g))
theorem xI (h:ur p0 w R):CC 203 #[p0] w R:=
  aw (.seq none .leaf (.seq none .leaf (.seq none (.seq none .leaf (.one (.loop [4,3] .leaf))) .leaf))) [p0] bo Tryz.func203 (by kernel_rfl) (by kernel_rfl) h

def za:V1:=fun p0 w R=>
 Bx 36 p0 w fun a b=>
 Fd 36 a 0 b fun b c=>
 Ld 3 b c fun b c=>
 Bb .eql 3 b (nn 3) c fun b c=>
 ((fun d:VW=>ag b true (
 Fd 36 a 2 c fun a c=>
 Ld 9 a c fun a c=>
 Bb .eql 9 a (.string ⟨#[91,93]⟩) c fun a c=>
 Pk b a (.bool false) c fun a b=>d a b) (
 Pk b undef (.bool false) c fun a b=>d a b)) fun b c=>
 ag b true (
 Fd 36 a 3 c fun a c=>
 Ld 34 a c fun a c=>
 Ln 34 a c fun a c=>
 Bb .eql 3 a (nn 0) c fun a c=>
 Pk b a (.bool false) c fun a b=>
 R (.returned a) b) (
 Pk b undef (.bool false) c fun a b=>
 R (.returned a) b))
theorem Au (h:za p0 w R):CC 204 #[p0] w R:=
  aw .leaf [p0] bo Tryz.func204 (by kernel_rfl) (by kernel_rfl) h

def tX:V1:=fun p0 w R=>
 Bx 36 p0 w fun a b=>
 Fd 36 a 0 b fun b c=>
 Ld 3 b c fun b c=>
 Bb .eql 3 b (nn 3) c fun b c=>
 ((fun d:VW=>ag b true (
 Fd 36 a 3 c fun a c=>
 Ld 34 a c fun a c=>
 Ln 34 a c fun a c=>
 Bb .eql 3 a (nn 0) c fun a c=>
 Pk b a (.bool false) c fun a b=>d a b) (
 Pk b undef (.bool false) c fun a b=>d a b)) fun b c=>
 ag b true (
 Fd 36 a 2 c fun a c=>
 Ld 9 a c fun a c=>
 Ca 117 [a] c fun a c=>
 Bb .gtr 3 a (nn 0) c fun a c=>
 Pk b a (.bool false) c fun a b=>
 R (.returned a) b) (
 Pk b undef (.bool false) c fun a b=>
 R (.returned a) b))
theorem yK (h:tX p0 w R):CC 205 #[p0] w R:=
  aw .leaf [p0] bo Tryz.func205 (by kernel_rfl) (by kernel_rfl) h

def nk:V2:=fun p0 p1 w R=>
 Bx 36 p0 w fun a b=>
 (∃ c:QP1,(
 Ld 36 a b fun b d=>
 Ca 197 [b] d fun b d=>
 ag b true (
 Fd 36 a 2 d fun a d=>
 Ld 9 a d fun a d=>
 Ca 117 [a] d fun a d=>
 Ba .gtr 3 a p1 d fun a d=>
 Pk b a (.bool false) d fun a b=>
 c a b) (
 Pk b undef (.bool false) d fun a b=>
 c a b))/\
 ∀ b _ _ _ _ _ _ _ _:Value,∀ d:World,c b d->
 CondV b (
 Ld 36 a d fun a b=>
 Ca 187 [a] b fun a b=>
 Bc .add 9 (.string ⟨#[40]⟩) a b fun a b=>
 Bb .add 9 a (.string ⟨#[41]⟩) b fun a b=>
 R (.returned a) b) (
 Ld 36 a d fun a b=>
 Ca 187 [a] b fun a b=>
 R (.returned a) b))
theorem rS (h:nk p0 p1 w R):CC 206 #[p0,p1] w R:=
  aw (.seq none .leaf (.seq none (.seq (some [13]) .leaf .leaf) .leaf)) [p0,p1] bo Tryz.func206 (by kernel_rfl) (by kernel_rfl) h

def qY:V1:=fun p0 w R=>
 Ca 190 [p0,(nn 0)] w fun a b=>
 ((fun c:VW=>ag a false (
 Ca 176 [p0,(nn 0)] b fun b d=>
 Pk a (.bool true) b d fun a b=>c a b) (
 Pk a (.bool true) undef b fun a b=>c a b)) fun a b=>
 ag a false (
 Ix 9 p0 (nn 0) 5 b fun b c=>
 Bb .geq 5 b (.int .u8 65) c fun b c=>
 ag b true (
 Ix 9 p0 (nn 0) 5 c fun c d=>
 Bb .leq 5 c (.int .u8 90) d fun c d=>
 ((fun e:VW=>ag a false (
 Pk b c (.bool false) d fun b c=>
 Pk a (.bool true) b c fun a b=>e a b) (
 Pk a (.bool true) undef d fun a b=>e a b)) fun a b=>
 ((fun c:VW=>ag a false (
 Ix 9 p0 (nn 0) 5 b fun b d=>
 Bb .eql 5 b (.int .u8 91) d fun b d=>
 Pk a (.bool true) b d fun a b=>c a b) (
 Pk a (.bool true) undef b fun a b=>c a b)) fun a b=>
 ag a false (
 Ix 9 p0 (nn 0) 5 b fun b c=>
 Bb .eql 5 b (.int .u8 40) c fun b c=>
 Pk a (.bool true) b c fun a b=>
 R (.returned a) b) (
 Pk a (.bool true) undef b fun a b=>
 R (.returned a) b)))) (
 ((fun d:VW=>ag a false (
 Pk b undef (.bool false) c fun b c=>
 Pk a (.bool true) b c fun a b=>d a b) (
 Pk a (.bool true) undef c fun a b=>d a b)) fun a b=>
 ((fun c:VW=>ag a false (
 Ix 9 p0 (nn 0) 5 b fun b d=>
 Bb .eql 5 b (.int .u8 91) d fun b d=>
 Pk a (.bool true) b d fun a b=>c a b) (
 Pk a (.bool true) undef b fun a b=>c a b)) fun a b=>
 ag a false (
 Ix 9 p0 (nn 0) 5 b fun b c=>
 Bb .eql 5 b (.int .u8 40) c fun b c=>
 Pk a (.bool true) b c fun a b=>
 R (.returned a) b) (
 Pk a (.bool true) undef b fun a b=>
 R (.returned a) b))))) (
 ag undef true (
 Ix 9 p0 (nn 0) 5 b fun b c=>
 Bb .leq 5 b (.int .u8 90) c fun b c=>
 ((fun d:VW=>ag a false (
 Pk undef b (.bool false) c fun b c=>
 Pk a (.bool true) b c fun a b=>d a b) (
 Pk a (.bool true) undef c fun a b=>d a b)) fun a b=>
 ((fun c:VW=>ag a false (
 Ix 9 p0 (nn 0) 5 b fun b d=>
 Bb .eql 5 b (.int .u8 91) d fun b d=>
 Pk a (.bool true) b d fun a b=>c a b) (
 Pk a (.bool true) undef b fun a b=>c a b)) fun a b=>
 ag a false (
 Ix 9 p0 (nn 0) 5 b fun b c=>
 Bb .eql 5 b (.int .u8 40) c fun b c=>
 Pk a (.bool true) b c fun a b=>
 R (.returned a) b) (
 Pk a (.bool true) undef b fun a b=>
 R (.returned a) b)))) (
 ((fun c:VW=>ag a false (
 Pk undef undef (.bool false) b fun b d=>
 Pk a (.bool true) b d fun a b=>c a b) (
 Pk a (.bool true) undef b fun a b=>c a b)) fun a b=>
 ((fun c:VW=>ag a false (
 Ix 9 p0 (nn 0) 5 b fun b d=>
 Bb .eql 5 b (.int .u8 91) d fun b d=>
 Pk a (.bool true) b d fun a b=>c a b) (
 Pk a (.bool true) undef b fun a b=>c a b)) fun a b=>
 ag a false (
 Ix 9 p0 (nn 0) 5 b fun b c=>
 Bb .eql 5 b (.int .u8 40) c fun b c=>
 Pk a (.bool true) b c fun a b=>
 R (.returned a) b) (
 Pk a (.bool true) undef b fun a b=>
 R (.returned a) b))))))
theorem vJ (h:qY p0 w R):CC 207 #[p0] w R:=
  aw .leaf [p0] bo Tryz.func207 (by kernel_rfl) (by kernel_rfl) h

def oe:V1:=fun p0 w R=>
 RR (sOp (.convert 3 5 (.const p0)) 5) w fun a b=>
 Bc .add 5 (.int .u8 65) a b fun a b=>
 RR (av 44 1 [(0,a)]) b fun a b=>
 RR (sOp (.convert 44 9 (.const a)) 9) b fun a b=>
 R (.returned a) b
theorem sW (h:oe p0 w R):CC 208 #[p0] w R:=
  aw .leaf [p0] bo Tryz.func208 (by kernel_rfl) (by kernel_rfl) h

def xb:V1:=fun p0 w R=>
 Bb .lss 3 p0 (nn 0) w fun a b=>
 CondV a (
 RR (sOp (.unOp .neg 3 (.const p0)) 3) b fun a b=>
 Ca 211 [a] b fun a b=>
 Bc .add 9 (.string ⟨#[45]⟩) a b fun a b=>
 R (.returned a) b) (
 Ca 211 [p0] b fun a b=>
 R (.returned a) b)
theorem Ag (h:xb p0 w R):CC 209 #[p0] w R:=
  aw .leaf [p0] bo Tryz.func209 (by kernel_rfl) (by kernel_rfl) h

def uJ:V1:=fun p0 w R=>
 Bb .lss 3 p0 (.int .i64 (-9223372036854775807)) w fun a b=>
 CondV a (
 R (.returned (.string ⟨#[45,57,50,50,51,51,55,50,48,51,54,56,53,52,55,55,53,56,48,56]⟩)) b) (
 Bb .lss 3 p0 (nn 0) b fun a b=>
 CondV a (
 RR (sOp (.unOp .neg 3 (.const p0)) 3) b fun a b=>
 Ca 211 [a] b fun a b=>
 Bc .add 9 (.string ⟨#[45]⟩) a b fun a b=>
 R (.returned a) b) (
 (∃ (a:QP2) (c:QN2),a p0 (.string ⟨#[]⟩) b/\
 ∀ b _ _ d _ _ _ _ _ _ _ _ _ _:Value,∀ e:World,a b d e->
 Bb .gtr 3 b (nn 9) e fun f g=>
 CondV f (
 Bb .rem 3 b (nn 10) g fun f g=>
 Bc .add 3 (nn 48) f g fun f g=>
 RR (sOp (.convert 3 5 (.const f)) 5) g fun f g=>
 RR (av 44 1 [(0,f)]) g fun f g=>
 RR (sOp (.convert 44 9 (.const f)) 9) g fun f g=>
 Ba .add 9 f d g fun f g=>
 Bb .quo 3 b (nn 10) g fun g h=>
 a g f h/\c g f h<c b d e) (
 Bc .add 3 (nn 48) b g fun a b=>
 RR (sOp (.convert 3 5 (.const a)) 5) b fun a b=>
 RR (av 44 1 [(0,a)]) b fun a b=>
 RR (sOp (.convert 44 9 (.const a)) 9) b fun a b=>
 Ba .add 9 a d b fun a b=>
 R (.returned a) b))))
theorem yL (h:uJ p0 w R):CC 211 #[p0] w R:=
  aw (.seq none .leaf (.seq none .leaf (.seq none .leaf (.seq none .leaf (.seq none (.one (.loop [0,3] .leaf)) .leaf))))) [p0] bo Tryz.func211 (by kernel_rfl) (by kernel_rfl) h

end Go.Proofs.YtfcbhfjomgopbaaGreat
