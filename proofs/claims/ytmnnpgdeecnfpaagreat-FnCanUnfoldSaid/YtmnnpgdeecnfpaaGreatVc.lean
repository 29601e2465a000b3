/- A verification condition over the model's code, structural in the code, and its soundness: 'vc' gives 'Code.wp', 'calls_of_vc' gives 'Calls'. It speaks of any program. -/
import Derived.Orders
import Derived.Calls
namespace Go.Proofs.YtmnnpgdeecnfpaaGreat
open Go

abbrev Env := Nat → Value
def upd (ρ : Env) (d : Nat) (v : Value) : Env := fun t => match Nat.beq t d with
  | true => v
  | false => ρ t
def putE (ρ : Env) (dst : Option Nat) (v : Value) : Env := match dst with
  | some d => upd ρ d v
  | none => ρ
def evE (ρ : Env) : Operand → Value
  | .tmp t => ρ t
  | .const v => v
  | .global g => .pointer (some ⟨g, 0, none⟩)
  | .func f => .func (.func f) #[] #[]

/- One operation: it yields a value, or skips, or enters a function that returns. -/
def Run (P : Program) (s : Sem Next) (w : World) (K : Value → World → Prop) : Prop :=
  match s.run P w with
  | .ok (.value v) w' => K v w'
  | .ok .skip w' => K undef w'
  | .ok (.enter f args) w' => Calls P f args w' fun
      | .returned v, w'' => K v w''
      | _, _ => False
  | _ => False

/- the operations, their operands being values -/
def ev0 : Operand → Value := evE fun _ => undef
def sOp (op : Op) (ty : TypeId) : Sem Next := execOp ev0 ⟨none, op, ty, "", #[], none⟩
def sBin (op : BinOp) (T : TypeId) (cx cy : Bool) (x y : Value) : Sem Next := do
  eqGuard op T (bif cx then .const x else .tmp 0) (bif cy then .const y else .tmp 0) x y
  pure (.value (← binOp op T x y))
def sBuild (T : TypeId) (ps : List (Nat × Value)) : Sem Next := do pure (.value (← Instr.build T ps.toArray))
def sBuildSlice (T : TypeId) (n : Nat) (ps : List (Nat × Value)) : Sem Next := do pure (.value (← Instr.buildSlice T n ps.toArray))
def sMakeFunc (fn : Fn) (first captured : List Value) : Sem Next := do pure (.value (← Instr.makeFunc fn first.toArray captured.toArray))
def sCall (f : Value) (args : List Value) : Sem Next := do
  let d ← Deferred.ofValue f args.toArray
  invoke d.target d.args
def sBuiltin (b : Builtin) (ts : Array TypeId) (ty : TypeId) (cs : List Bool) (args : List Value) : Sem Next :=
  builtin b ts ty cs.toArray args.toArray
def isC : Operand → Bool
  | .const _ => true
  | _ => false
def cl (ρ : Env) (x : Operand) : Operand := .const (evE ρ x)
/- an operation with its operands closed -/
def close (ρ : Env) : Op → Op
  | .pick c a b => .pick (cl ρ c) (cl ρ a) (cl ρ b)
  | .alloc e => .alloc e
  | .box e v => .box e (cl ρ v)
  | .load t a => .load t (cl ρ a)
  | .store t a v => .store t (cl ρ a) (cl ρ v)
  | .nilCheck x => .nilCheck (cl ρ x)
  | .unOp o t x => .unOp o t (cl ρ x)
  | .convert s d x => .convert s d (cl ρ x)
  | .makeInterface t x => .makeInterface t (cl ρ x)
  | .makeMap t r => .makeMap t (r.map (cl ρ))
  | .makeSlice t l c => .makeSlice t (cl ρ l) (cl ρ c)
  | .slice t x l h m => .slice t (cl ρ x) (l.map (cl ρ)) (h.map (cl ρ)) (m.map (cl ρ))
  | .fieldAddr t x f => .fieldAddr t (cl ρ x) f
  | .field t x f => .field t (cl ρ x) f
  | .indexAddr t x i => .indexAddr t (cl ρ x) (cl ρ i)
  | .index t x i => .index t (cl ρ x) (cl ρ i)
  | .lookup t x i ok => .lookup t (cl ρ x) (cl ρ i) ok
  | .mapUpdate t m k v => .mapUpdate t (cl ρ m) (cl ρ k) (cl ρ v)
  | .range t x => .range t (cl ρ x)
  | .next x b => .next (cl ρ x) b
  | .extract t i => .extract (cl ρ t) i
  | .typeAssert x t a ok => .typeAssert (cl ρ x) t a ok
  | op => op
def closes : Op → Bool
  | .pick .. | .alloc .. | .box .. | .load .. | .store .. | .nilCheck .. | .unOp .. | .convert .. | .makeInterface .. | .makeMap .. | .makeSlice .. | .slice ..
  | .fieldAddr .. | .field .. | .indexAddr .. | .index .. | .lookup .. | .mapUpdate .. | .range .. | .next .. | .extract .. | .typeAssert .. => true
  | _ => false
def semE (ρ : Env) (o : Oper) : Sem Next := match o.op with
  | .binOp op T x y _ => sBin op T (isC x) (isC y) (evE ρ x) (evE ρ y)
  | .build t ps => sBuild t (ps.toList.map fun p => (p.1, evE ρ p.2))
  | .buildSlice t n ps => sBuildSlice t n (ps.toList.map fun p => (p.1, evE ρ p.2))
  | .makeFunc fn a b => sMakeFunc fn (a.toList.map (evE ρ)) (b.toList.map (evE ρ))
  | .call c => match c.callee with
    | .value f => sCall (evE ρ f) (c.args.toList.map (evE ρ))
    | .builtin b => sBuiltin b c.argTypes o.type (c.args.toList.map isC) (c.args.toList.map (evE ρ))
    | .invoke .. => execOp (evE ρ) o
  | op => match closes op with
    | true => sOp (close ρ op) o.type
    | false => execOp (evE ρ) o

/- One operation of a region: a mere copy leaves no trace in the condition. -/
def stepE (P : Program) (o : Oper) (ρ : Env) (w : World) (K : Value → World → Prop) : Prop := match o.op with
  | .move x | .assign x => K (evE ρ x) w
  | _ => Run P (semE ρ o) w K

def GuardV (v : Value) (b : Bool) (A B : Prop) : Prop := match v with
  | .bool c => if c = b then A else B
  | _ => B
def GuardO (ops : List Oper) (ρ : Env) (g : Option (Nat × Bool)) (A B : Prop) : Prop := match g with
  | none => A
  | some (j, b) => match (ops[j]?).bind (·.dst) with
    | some d => GuardV (ρ d) b A B
    | none => B

def opE (P : Program) (ops : List Oper) (o : Oper) (ρ : Env) (w : World) (K : Env → World → Prop) : Prop :=
  GuardO ops ρ o.guard (stepE P o ρ w fun v w' => K (putE ρ o.dst v) w') (K (putE ρ o.dst undef) w)

def sameGuard (g h : Option (Nat × Bool)) : Bool := match g, h with
  | some (i, a), some (j, b) => Nat.beq i j && (a == b)
  | none, none => true
  | _, _ => false
def grp (g : Option (Nat × Bool)) : List Oper → List Oper
  | [] => []
  | o :: os => match sameGuard g o.guard with
    | true => o :: grp g os
    | false => []
def ungrp (g : Option (Nat × Bool)) : List Oper → List Oper
  | [] => []
  | o :: os => match sameGuard g o.guard with
    | true => ungrp g os
    | false => o :: os
/- the operations of a list one after the other, their guards left aside -/
def runL (P : Program) : List Oper → Env → World → (Env → World → Prop) → Prop
  | [], ρ, w, K => K ρ w
  | o :: os, ρ, w, K => stepE P o ρ w fun v w' => runL P os (putE ρ o.dst v) w' K
def skipL : List Oper → Env → Env
  | [], ρ => ρ
  | o :: os, ρ => skipL os (putE ρ o.dst undef)
def vcOps (P : Program) (all : List Oper) (n : Nat) : List Oper → Env → World → (Env → World → Prop) → Prop :=
  Nat.rec (fun _ _ _ _ => False) (fun _ ih l ρ w K => match l with
    | [] => K ρ w
    | o :: os => match o.guard with
      | none => stepE P o ρ w fun v w' => ih os (putE ρ o.dst v) w' K
      | some g => GuardO all ρ (some g)
          (runL P (o :: grp (some g) os) ρ w fun ρ' w' => ih (ungrp (some g) os) ρ' w' K)
          (ih (ungrp (some g) os) (skipL (o :: grp (some g) os) ρ) w K)) n

def setD (D : Nat → Bool) (i : Nat) : Nat → Bool := fun j => bif Nat.beq j i then true else D j
def allOn : List Edge → (Nat → Bool) → Prop → Prop
  | [], _, p => p
  | e :: es, D, p => match Region.binds .any e with
    | true => D e.on = true → allOn es D p
    | false => allOn es D p
def allDone : Nat → (Nat → Bool) → Prop → Prop
  | 0, _, p => p
  | n + 1, D, p => D n = true → allDone n D p
/- curried predicates over the values of some slots -/
def Cur (α : Type) : List Nat → Type
  | [] => α
  | _ :: l => Value → Cur α l
def ap {α : Type} : (l : List Nat) → Cur α l → Env → α
  | [], f, _ => f
  | m :: l, f, ρ => ap l (f (ρ m)) ρ
/- for all values of some slots -/
def forallL : List Nat → Env → (Env → Prop) → Prop
  | [], ρ, p => p ρ
  | m :: l, ρ, p => ∀ x : Value, forallL l (upd ρ m x) p

def wrOps : List Oper → List Nat → List Nat
  | [], l => l
  | o :: os, l => match o.dst with
    | some d => match l.elem d with
      | true => wrOps os l
      | false => wrOps os (d :: l)
    | none => wrOps os l
def drawSteps (P : Program) (all : List Oper) (M : List Nat) (A : (Nat → Bool) → Cur (World → Prop) M) (ρ : Env) : Nat → List Oper → Prop
  | _, [] => True
  | i, o :: os => (∀ D, D i = false → allOn o.after.toList D (forallL M ρ fun ρ' => ∀ w', ap M (A D) ρ' w' →
      opE P all o ρ' w' fun ρ'' w'' => ap M (A (setD D i)) ρ'' w'')) ∧ drawSteps P all M A ρ (i + 1) os
def vcDraw (P : Program) (ops : List Oper) (ρ : Env) (w : World) (K : Env → World → Prop) : Prop :=
  ∃ A : (Nat → Bool) → Cur (World → Prop) (wrOps ops []), ap (wrOps ops []) (A fun _ => false) ρ { w with drawn := w.drawn + 1 } ∧
    drawSteps P ops (wrOps ops []) A ρ 0 ops ∧
    ∀ D, allDone ops.length D (forallL (wrOps ops []) ρ fun ρ' => ∀ w', ap (wrOps ops []) (A D) ρ' w' → K ρ' w')

inductive An where
  | leaf
  | seq (cut : Option (List Nat)) (l r : An)
  | two (l r : An)
  | one (l : An)
  | loop (live : List Nat) (l : An)
def An.cut : An → Option (List Nat)
  | .seq c _ _ => c
  | _ => none
def An.l : An → An
  | .seq _ a _ | .two a _ | .one a | .loop _ a => a
  | .leaf => .leaf
def An.r : An → An
  | .seq _ _ b | .two _ b => b
  | _ => .leaf
def An.live : An → List Nat
  | .loop l _ => l
  | _ => []

/- the slots that a code writes, in front of those of a list -/
def wr : Code → List Nat → List Nat
  | .region _ ops _, l => wrOps ops.toList l
  | .seq a b, l => wr b (wr a l)
  | .cond _ a b, l => wr b (wr a l)
  | .block _ a, l | .loop a, l | .scope a, l => wr a l
  | _, l => l

abbrev thenE (K : Env → World → Prop) (Q : Exit → Env → World → Prop) : Exit → Env → World → Prop
  | .normal, ρ, w => K ρ w
  | e, ρ, w => Q e ρ w
abbrev blockE (id : Nat) (Q : Exit → Env → World → Prop) : Exit → Env → World → Prop
  | .exit id', ρ, w => match Nat.beq id' id with
    | true => Q .normal ρ w
    | false => Q (.exit id') ρ w
  | e, ρ, w => Q e ρ w

def CondV (v : Value) (A B : Prop) : Prop := match v with
  | .bool c => if c = true then A else B
  | _ => False

def vc (P : Program) : Code → An → (Exit → Env → World → Prop) → Env → World → Prop
  | .skip, _, Q, ρ, w => Q .normal ρ w
  | .ret, _, Q, ρ, w => Q .ret ρ w
  | .exit id, _, Q, ρ, w => Q (.exit id) ρ w
  | .region _ ops draw, _, Q, ρ, w =>
    match draw with
    | true => vcDraw P ops.toList ρ w (Q .normal)
    | false => vcOps P ops.toList (ops.toList.length + 1) ops.toList ρ w (Q .normal)
  | .seq a b, an, Q, ρ, w => match an.cut with
    | none => vc P a an.l (thenE (vc P b an.r Q) Q) ρ w
    | some lv => ∃ J : Cur (World → Prop) lv, vc P a an.l (thenE (ap lv J) Q) ρ w ∧
        forallL (wr a []) ρ fun ρ' => ∀ w', ap lv J ρ' w' → vc P b an.r Q ρ' w'
  | .cond c a b, an, Q, ρ, w => CondV (evE ρ c) (vc P a an.l Q ρ w) (vc P b an.r Q ρ w)
  | .block id a, an, Q, ρ, w => vc P a an.l (blockE id Q) ρ w
  | .loop a, an, Q, ρ, w => ∃ (I : Cur (World → Prop) an.live) (μ : Cur (World → Nat) an.live), ap an.live I ρ w ∧
      forallL (wr a []) ρ fun ρ' => ∀ w', ap an.live I ρ' w' →
        vc P a an.l (thenE (fun ρ'' w'' => ap an.live I ρ'' w'' ∧ ap an.live μ ρ'' w'' < ap an.live μ ρ' w') Q) ρ' w'
  | _, _, _, _, _ => False

end Go.Proofs.YtmnnpgdeecnfpaaGreat
