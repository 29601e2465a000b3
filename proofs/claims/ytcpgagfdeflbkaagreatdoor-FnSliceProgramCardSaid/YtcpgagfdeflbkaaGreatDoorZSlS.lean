/- A verification condition over the model's code, structural in the code, and its soundness: 'vc' gives 'Code.wp', 'calls_of_vc' gives 'Calls'. It speaks of any program. -/
import Derived.Orders
import Derived.Calls
import Derived.Laws.Sem
import Derived.Below
import Derived.Laws.AppendOwn
import Derived.Laws.Cells
import Derived.Laws.CopyRow
import Derived.Laws.Entries
import Derived.IntWalk
import Derived.Lib.IndexBytes
namespace Go.Proofs.YtcpgagfdeflbkaaGreatDoor
section
open Go
abbrev Qz:=@Array.getElem?_eq_some_iff
abbrev QU:=@Array.getElem?_setIfInBounds_ne
abbrev KY:=@Array.length_toList
abbrev RY:=@Array.toList_eraseIdxIfInBounds
abbrev Bk:=@Array.toList_inj
abbrev OU:=@Array.toList_push
abbrev Rv:=@Array.toList_setIfInBounds
abbrev bN:=@Bool.and_eq_true
abbrev vq:=@Bool.and_false
abbrev cq:=@Bool.eq_false_iff
abbrev oS:=@Bool.eq_iff_iff
abbrev gJ:=@Bool.false_and
abbrev H0:=@Bool.false_eq_true
abbrev gc:=@Bool.false_or
abbrev OI:=@Bool.not_eq_false'
abbrev Jt:=@Bool.not_eq_true
abbrev oN:=@Bool.not_eq_true'
abbrev Mq:=@Bool.or_eq_false_iff
abbrev iS:=@Bool.or_eq_true
abbrev My:=@Bool.or_true
abbrev dU:=@Bool.true_and
abbrev uV:=@Bool.true_or
abbrev EE:=@Int.le_refl
abbrev dF:=@Int.toNat_natCast
abbrev Oo:=@Int.toNat_of_nonneg
abbrev uI:=@List.Perm.append_left
abbrev ed:=@List.all_eq_true
abbrev eH:=@List.any_cons
abbrev JJ:=@List.any_eq_true
abbrev eI:=@List.append_assoc
abbrev Ps:=@List.append_inj'
abbrev cX:=@List.append_nil
abbrev jl:=@List.cons.injEq
abbrev gt:=@List.cons_append
abbrev LZ:=@List.dropLast_concat_getLast
abbrev DP:=@List.drop_drop
abbrev di:=@List.drop_eq_getElem_cons
abbrev tM:=@List.drop_eq_nil_of_le
abbrev Me:=@List.drop_left
abbrev dP:=@List.drop_length
abbrev LR:=@List.drop_take
abbrev MH:=@List.drop_zero
abbrev iW:=@List.eq_nil_of_length_eq_zero
abbrev Om:=@List.eq_nil_or_concat
abbrev Ma:=@List.eq_of_mem_replicate
abbrev OZ:=@List.eraseIdx_eq_take_drop_succ
abbrev tk:=@List.ext_getElem?
abbrev OR:=@List.filter_congr
abbrev ow:=@List.filter_cons
abbrev Mg:=@List.filter_eq_nil_iff
abbrev Mv:=@List.filter_filter
abbrev zc:=@List.flatMap_cons
abbrev vD:=@List.flatten_append
abbrev gx:=@List.flatten_cons
abbrev qW:=@List.flatten_nil
abbrev MP:=@List.getD_eq_getElem?_getD
abbrev vo:=@List.getElem?_append_left
abbrev gP:=@List.getElem?_append_right
abbrev lx:=@List.getElem?_cons_succ
abbrev ER:=@List.getElem?_cons_zero
abbrev uD:=@List.getElem?_drop
abbrev iR:=@List.getElem?_eq_getElem
abbrev O4:=@List.getElem?_eq_none
abbrev fu:=@List.getElem?_eq_some_iff
abbrev OB:=@List.getElem?_replicate
abbrev yb:=@List.getElem?_set
abbrev CF:=@List.getElem?_set_ne
abbrev tx:=@List.getElem?_take
abbrev ft:=@List.getElem_append_left
abbrev eT:=@List.getElem_append_right
abbrev Pr:=@List.getElem_cons_succ
abbrev kQ:=@List.getElem_cons_zero
abbrev EJ:=@List.getElem_map
abbrev bQ:=@List.getElem_mem
abbrev yf:=@List.getElem_of_mem
abbrev Mi:=@List.getElem_set_ne
abbrev Jk:=@List.getElem_set_self
abbrev Ik:=@List.getElem_take
abbrev bh:=@List.length_append
abbrev bk:=@List.length_cons
abbrev xS:=@List.length_drop
abbrev IJ:=@List.length_filter_le
abbrev pF:=@List.length_map
abbrev bG:=@List.length_nil
abbrev oI:=@List.length_set
abbrev oz:=@List.length_singleton
abbrev dN:=@List.length_take
abbrev MI:=@List.length_zip
abbrev pj:=@List.map_cons
abbrev cd:=@List.mem_append
abbrev eM:=@List.mem_append_left
abbrev kw:=@List.mem_append_right
abbrev cQ:=@List.mem_cons
abbrev bv:=@List.mem_cons_of_mem
abbrev bq:=@List.mem_cons_self
abbrev Il:=@List.mem_filter
abbrev Jy:=@List.mem_iff_getElem
abbrev iX:=@List.mem_map
abbrev du:=@List.mem_of_getElem?
abbrev Jc:=@List.mem_or_eq_of_mem_set
abbrev bY:=@List.mem_singleton
abbrev sv:=@List.nil_append
abbrev nR:=@List.nodup_append
abbrev GK:=@List.nodup_cons
abbrev Hk:=@List.nodup_nil
abbrev ji:=@List.not_mem_nil
abbrev KQ:=@List.pairwise_append
abbrev Lh:=@List.pairwise_cons
abbrev OP:=@List.pairwise_iff_forall_sublist
abbrev co:=@List.perm_append_comm
abbrev zal110:=@List.perm_middle
abbrev Oa:=@List.replicate_append_replicate
abbrev Lp:=@List.set_append_left
abbrev Fi:=@List.set_cons_succ
abbrev AH:=@List.set_eq_take_append_cons_drop
abbrev KT:=@List.set_getElem_self
abbrev dn:=@List.sublist_append_left
abbrev dz:=@List.sublist_append_right
abbrev gk:=@List.sublist_cons_self
abbrev Hd:=@List.take_append_drop
abbrev N2:=@List.take_append_of_le_length
abbrev BZ:=@List.take_left
abbrev fM:=@List.take_length
abbrev Fe:=@List.take_of_length_le
abbrev qq:=@List.take_succ_cons
abbrev fy:=@List.take_succ_eq_append_getElem
abbrev sF:=@List.take_take
abbrev Gc:=@List.take_zero
abbrev n3:=@Nat.add_comm
abbrev wq:=@Nat.add_mul
abbrev sS:=@Nat.add_right_cancel_iff
abbrev qj:=@Nat.add_sub_cancel_left
abbrev CJ:=@Nat.add_zero
abbrev Ha:=@Nat.eq_of_beq_eq_true
abbrev qJ:=@Nat.le_add_right
abbrev jS:=@Nat.le_of_ble_eq_true
abbrev Gn:=@Nat.le_of_eq
abbrev aM:=@Nat.le_refl
abbrev KF:=@Nat.le_succ_of_le
abbrev il:=@Nat.le_trans
abbrev FZ:=@Nat.lt_or_ge
abbrev KP:=@Nat.lt_succ_self
abbrev qN:=@Nat.min_eq_left
abbrev px:=@Nat.mod_lt
abbrev iy:=@Nat.mul_le_mul_right
abbrev Kb:=@Nat.pow_le_pow_right
abbrev dY:=@Nat.sub_self
abbrev jc:=@Nat.succ_mul
abbrev cZ:=@Nat.zero_add
abbrev aR:=@Nat.zero_le
abbrev wG:=@Nat.zero_mul
abbrev LP:=@Option.map_eq_some_iff
abbrev wz:=@Option.map_some
abbrev Bc:=@Option.some.inj
abbrev aT:=@Option.some.injEq
abbrev cL:=@Prod.mk.injEq
abbrev jP:=@and_true
abbrev Kt:=@beq_self_eq_true
abbrev fq:=@decide_eq_decide
abbrev bg:=@decide_eq_false
abbrev lM:=@decide_eq_false_iff_not
abbrev aS:=@decide_eq_true
abbrev bC:=@decide_eq_true_eq
abbrev af:=@if_neg
abbrev ai:=@if_pos
abbrev jg:=@or_false
abbrev sy:=@true_and
theorem aQ {P:Prop} (h:false=true):P:=Bool.noConfusion h

abbrev Env:=Nat->Value
def upd (ρ:Env) (d:Nat) (v:Value):Env:=fun t=>match Nat.beq t d with
 | true=>v
 | false=>ρ t
def ry (ρ:Env) (dst:Option Nat) (v:Value):Env:=match dst with
 | some d=>upd ρ d v
 | none=>ρ
def evE (ρ:Env):Operand->Value
 | .tmp t=>ρ t
 | .const v=>v
 | .global g=>.pointer (some ⟨g,0,none⟩)
 | .func f=>.func (.func f) #[] #[]

def Run (P:Program) (s:Sem Next) (w:World) (K:Value->World->Prop):Prop:=
 match s.run P w with
 | .ok (.value v) w'=>K v w'
 | .ok .skip w'=>K undef w'
 | .ok (.enter f args) w'=>Calls P f args w' fun
   | .returned v,w''=>K v w''
   | _,_=>False
 | _=>False

def ev0:Operand->Value:=evE fun _=>undef
def sOp (op:Op) (ty:TypeId):Sem Next:=execOp ev0 ⟨none,op,ty,"",#[],none⟩
def cw (op:BinOp) (T:TypeId) (cx cy:Bool) (x y:Value):Sem Next:=do
 eqGuard op T (bif cx then .const x else .tmp 0) (bif cy then .const y else .tmp 0) x y
 pure (.value (<- binOp op T x y))
def cn (T:TypeId) (ps:List (Nat × Value)):Sem Next:=do pure (.value (<- Instr.build T ps.toArray))
def bF (T:TypeId) (n:Nat) (ps:List (Nat × Value)):Sem Next:=do pure (.value (<- Instr.buildSlice T n ps.toArray))
def dR (fn:Fn) (first captured:List Value):Sem Next:=do pure (.value (<- Instr.makeFunc fn first.toArray captured.toArray))
def er (f:Value) (args:List Value):Sem Next:=do
 let d <- Deferred.ofValue f args.toArray
 invoke d.target d.args
def bH (b:Builtin) (ts:Array TypeId) (ty:TypeId) (cs:List Bool) (args:List Value):Sem Next:=
 builtin b ts ty cs.toArray args.toArray
def isC:Operand->Bool
 | .const _=>true
 | _=>false
def cl (ρ:Env) (x:Operand):Operand:=.const (evE ρ x)
def TL (ρ:Env):Op->Op
 | .pick c a b=>.pick (cl ρ c) (cl ρ a) (cl ρ b)
 | .alloc e=>.alloc e
 | .box e v=>.box e (cl ρ v)
 | .load t a=>.load t (cl ρ a)
 | .store t a v=>.store t (cl ρ a) (cl ρ v)
 | .nilCheck x=>.nilCheck (cl ρ x)
 | .unOp o t x=>.unOp o t (cl ρ x)
 | .convert s d x=>.convert s d (cl ρ x)
 | .makeInterface t x=>.makeInterface t (cl ρ x)
 | .makeMap t r=>.makeMap t (r.map (cl ρ))
 | .makeSlice t l c=>.makeSlice t (cl ρ l) (cl ρ c)
 | .slice t x l h m=>.slice t (cl ρ x) (l.map (cl ρ)) (h.map (cl ρ)) (m.map (cl ρ))
 | .fieldAddr t x f=>.fieldAddr t (cl ρ x) f
 | .field t x f=>.field t (cl ρ x) f
 | .indexAddr t x i=>.indexAddr t (cl ρ x) (cl ρ i)
 | .index t x i=>.index t (cl ρ x) (cl ρ i)
 | .lookup t x i ok=>.lookup t (cl ρ x) (cl ρ i) ok
 | .mapUpdate t m k v=>.mapUpdate t (cl ρ m) (cl ρ k) (cl ρ v)
 | .range t x=>.range t (cl ρ x)
 | .next x b=>.next (cl ρ x) b
 | .extract t i=>.extract (cl ρ t) i
 | .typeAssert x t a ok=>.typeAssert (cl ρ x) t a ok
 | op=>op
def Rt:Op->Bool
 | .pick ..|.alloc ..|.box ..|.load ..|.store ..|.nilCheck ..|.unOp ..|.convert ..|.makeInterface ..|.makeMap ..|.makeSlice ..|.slice ..
 | .fieldAddr ..|.field ..|.indexAddr ..|.index ..|.lookup ..|.mapUpdate ..|.range ..|.next ..|.extract ..|.typeAssert ..=>true
 | _=>false
def IW (ρ:Env) (o:Oper):Sem Next:=match o.op with
 | .binOp op T x y _=>cw op T (isC x) (isC y) (evE ρ x) (evE ρ y)
 | .build t ps=>cn t (ps.toList.map fun p=>(p.1,evE ρ p.2))
 | .buildSlice t n ps=>bF t n (ps.toList.map fun p=>(p.1,evE ρ p.2))
 | .makeFunc fn a b=>dR fn (a.toList.map (evE ρ)) (b.toList.map (evE ρ))
 | .call c=>match c.callee with
  | .value f=>er (evE ρ f) (c.args.toList.map (evE ρ))
  | .builtin b=>bH b c.argTypes o.type (c.args.toList.map isC) (c.args.toList.map (evE ρ))
  | .invoke ..=>execOp (evE ρ) o
 | op=>match Rt op with
  | true=>sOp (TL ρ op) o.type
  | false=>execOp (evE ρ) o

def stepE (P:Program) (o:Oper) (ρ:Env) (w:World) (K:Value->World->Prop):Prop:=match o.op with
 | .move x|.assign x=>K (evE ρ x) w
 | _=>Run P (IW ρ o) w K

def aq (v:Value) (b:Bool) (A B:Prop):Prop:=match v with
 | .bool c=>if c=b then A else B
 | _=>B
def GuardO (ops:List Oper) (ρ:Env) (g:Option (Nat × Bool)) (A B:Prop):Prop:=match g with
 | none=>A
 | some (j,b)=>match (ops[j]?).bind (·.dst) with
  | some d=>aq (ρ d) b A B
  | none=>B

def opE (P:Program) (ops:List Oper) (o:Oper) (ρ:Env) (w:World) (K:Env->World->Prop):Prop:=
 GuardO ops ρ o.guard (stepE P o ρ w fun v w'=>K (ry ρ o.dst v) w') (K (ry ρ o.dst undef) w)

def iD (g h:Option (Nat × Bool)):Bool:=match g,h with
 | some (i,a),some (j,b)=>Nat.beq i j && (a == b)
 | none,none=>true
 | _,_=>false
def grp (g:Option (Nat × Bool)):List Oper->List Oper
 | []=>[]
 | o::os=>match iD g o.guard with
  | true=>o::grp g os
  | false=>[]
def li (g:Option (Nat × Bool)):List Oper->List Oper
 | []=>[]
 | o::os=>match iD g o.guard with
  | true=>li g os
  | false=>o::os
def Ng (P:Program):List Oper->Env->World->(Env->World->Prop)->Prop
 | [],ρ,w,K=>K ρ w
 | o::os,ρ,w,K=>stepE P o ρ w fun v w'=>Ng P os (ry ρ o.dst v) w' K
def Hv:List Oper->Env->Env
 | [],ρ=>ρ
 | o::os,ρ=>Hv os (ry ρ o.dst undef)
def yj (P:Program) (all:List Oper) (n:Nat):List Oper->Env->World->(Env->World->Prop)->Prop:=
 Nat.rec (fun _ _ _ _=>False) (fun _ ih l ρ w K=>match l with
  | []=>K ρ w
  | o::os=>match o.guard with
   | none=>stepE P o ρ w fun v w'=>ih os (ry ρ o.dst v) w' K
   | some g=>GuardO all ρ (some g)
     (Ng P (o::grp (some g) os) ρ w fun ρ' w'=>ih (li (some g) os) ρ' w' K)
     (ih (li (some g) os) (Hv (o::grp (some g) os) ρ) w K)) n

def aB (D:Nat->Bool) (i:Nat):Nat->Bool:=fun j=>bif Nat.beq j i then true else D j
def si:List Edge->(Nat->Bool)->Prop->Prop
 | [],_,p=>p
 | e::es,D,p=>match Region.binds .any e with
  | true=>D e.on=true->si es D p
  | false=>si es D p
def uZ:Nat->(Nat->Bool)->Prop->Prop
 | 0,_,p=>p
 | n+1,D,p=>D n=true->uZ n D p
def Cur (α:Type):List Nat->Type
 | []=>α
 | _::l=>Value->Cur α l
def ap {α:Type}:(l:List Nat)->Cur α l->Env->α
 | [],f,_=>f
 | m::l,f,ρ=>ap l (f (ρ m)) ρ
def jC:List Nat->Env->(Env->Prop)->Prop
 | [],ρ,p=>p ρ
 | m::l,ρ,p=>∀ x:Value,jC l (upd ρ m x) p

def mn:List Oper->List Nat->List Nat
 | [],l=>l
 | o::os,l=>match o.dst with
  | some d=>match l.elem d with
   | true=>mn os l
   | false=>mn os (d::l)
  | none=>mn os l
def wh (P:Program) (all:List Oper) (M:List Nat) (A:(Nat->Bool)->Cur (World->Prop) M) (ρ:Env):Nat->List Oper->Prop
 | _,[]=>True
 | i,o::os=>(∀ D,D i=false->si o.after.toList D (jC M ρ fun ρ'=>∀ w',ap M (A D) ρ' w'->
   opE P all o ρ' w' fun ρ'' w''=>ap M (A (aB D i)) ρ'' w''))/\wh P all M A ρ (i+1) os
def Ld (P:Program) (ops:List Oper) (ρ:Env) (w:World) (K:Env->World->Prop):Prop:=
 ∃ A:(Nat->Bool)->Cur (World->Prop) (mn ops []),ap (mn ops []) (A fun _=>false) ρ { w with drawn:=w.drawn+1 }/\
  wh P ops (mn ops []) A ρ 0 ops/\
  ∀ D,uZ ops.length D (jC (mn ops []) ρ fun ρ'=>∀ w',ap (mn ops []) (A D) ρ' w'->K ρ' w')

inductive An where
 | leaf
 | seq (cut:Option (List Nat)) (l r:An)
 | two (l r:An)
 | one (l:An)
 | loop (live:List Nat) (l:An)
def An.cut:An->Option (List Nat)
 | .seq c _ _=>c
 | _=>none
def An.l:An->An
 | .seq _ a _|.two a _|.one a|.loop _ a=>a
 | .leaf=>.leaf
def An.r:An->An
 | .seq _ _ b|.two _ b=>b
 | _=>.leaf
def An.live:An->List Nat
 | .loop l _=>l
 | _=>[]

def wr:Code->List Nat->List Nat
 | .region _ ops _,l=>mn ops.toList l
 | .seq a b,l=>wr b (wr a l)
 | .cond _ a b,l=>wr b (wr a l)
 | .block _ a,l|.loop a,l|.scope a,l=>wr a l
 | _,l=>l

abbrev yc (K:Env->World->Prop) (Q:Exit->Env->World->Prop):Exit->Env->World->Prop
 | .normal,ρ,w=>K ρ w
 | e,ρ,w=>Q e ρ w
abbrev KA (id:Nat) (Q:Exit->Env->World->Prop):Exit->Env->World->Prop
 | .exit id',ρ,w=>match Nat.beq id' id with
  | true=>Q .normal ρ w
  | false=>Q (.exit id') ρ w
 | e,ρ,w=>Q e ρ w

def CondV (v:Value) (A B:Prop):Prop:=match v with
 | .bool c=>if c=true then A else B
 | _=>False

def vc (P:Program):Code->An->(Exit->Env->World->Prop)->Env->World->Prop
 | .skip,_,Q,ρ,w=>Q .normal ρ w
 | .ret,_,Q,ρ,w=>Q .ret ρ w
 | .exit id,_,Q,ρ,w=>Q (.exit id) ρ w
 | .region _ ops draw,_,Q,ρ,w=>
  match draw with
  | true=>Ld P ops.toList ρ w (Q .normal)
  | false=>yj P ops.toList (ops.toList.length+1) ops.toList ρ w (Q .normal)
 | .seq a b,an,Q,ρ,w=>match an.cut with
  | none=>vc P a an.l (yc (vc P b an.r Q) Q) ρ w
  | some lv=>∃ J:Cur (World->Prop) lv,vc P a an.l (yc (ap lv J) Q) ρ w/\
    jC (wr a []) ρ fun ρ'=>∀ w',ap lv J ρ' w'->vc P b an.r Q ρ' w'
 | .cond c a b,an,Q,ρ,w=>CondV (evE ρ c) (vc P a an.l Q ρ w) (vc P b an.r Q ρ w)
 | .block id a,an,Q,ρ,w=>vc P a an.l (KA id Q) ρ w
 | .loop a,an,Q,ρ,w=>∃ (I:Cur (World->Prop) an.live) (μ:Cur (World->Nat) an.live),ap an.live I ρ w/\
   jC (wr a []) ρ fun ρ'=>∀ w',ap an.live I ρ' w'->
    vc P a an.l (yc (fun ρ'' w''=>ap an.live I ρ'' w''/\ap an.live μ ρ'' w''<ap an.live μ ρ' w') Q) ρ' w'
 | _,_,_,_,_=>False
end
section
open Go

def NK (n:Nat):Operand->Bool
 | .tmp t=>Nat.blt t n
 | _=>true
def Ms:Op->Bool
 | .select _ _=>false
 | _=>true
def Fc (n:Nat):Option Nat->Bool
 | some d=>Nat.blt d n
 | none=>true
def iv (j d:Nat):Nat->List Oper->Bool
 | _,[]=>true
 | i,o::os=>(Nat.beq i j || !(o.dst == some d)) && iv j d (i+1) os
def mx (n:Nat) (all:List Oper):Option (Nat × Bool)->Bool
 | none=>true
 | some (j,_)=>match (all[j]?).bind (·.dst) with
  | some d=>Nat.blt d n && iv j d 0 all
  | none=>false
def lj (n:Nat) (all:List Oper) (o:Oper):Bool:=
 Ms o.op && Fc n o.dst && o.op.operands.toList.all (NK n) && mx n all o.guard
def LX (i:Nat):List Edge->Bool
 | []=>true
 | e::es=>(!Region.binds .any e || Nat.blt e.on i) && LX i es
def AB:Nat->List Oper->Bool
 | _,[]=>true
 | i,o::os=>LX i o.after.toList && AB (i+1) os
def iU:Nat->List Oper->Bool
 | _,[]=>true
 | i,o::os=>(match o.guard with|none=>true|some (j,_)=>Nat.blt j i) && iU (i+1) os
def xh (n:Nat):Code->Bool
 | .skip|.ret|.exit _=>true
 | .region _ ops draw=>ops.toList.all (lj n ops.toList) && iU 0 ops.toList && (!draw || AB 0 ops.toList)
 | .seq a b=>xh n a && xh n b
 | .cond c a b=>NK n c && xh n a && xh n b
 | .block _ a|.loop a=>xh n a
 | _=>false

structure Rel (n:Nat) (ρ:Env) (a:Act):Prop where
 size:a.tmps.size=n
 at_:∀ t,t<n->a.tmps[t]?=some (ρ t)
 out:∀ t,n<=t->ρ t=undef
 defers:a.defers=[]

theorem Rel.eval {n:Nat} {ρ:Env} {a:Act} (h:Rel n ρ a) {x:Operand} (hx:NK n x=true):a.eval x=evE ρ x:=by
 cases x with
 | tmp t=>
  have ht:t<n:=by simpa [NK,Nat.blt_eq] using hx
  simp [Act.eval,evE,Array.getD_eq_getD_getElem?,h.at_ t ht]
 | _=>rfl

theorem BS (ρ:Env) (d:Nat) (v:Value):upd ρ d v d=v:=by simp [upd]
theorem qA (ρ:Env) {d t:Nat} (v:Value) (h:t≠d):upd ρ d v t=ρ t:=by
 have:Nat.beq t d=false:=by simpa [<- Bool.not_eq_true] using h
 simp [upd,this]

theorem Rel.put {n:Nat} {ρ:Env} {a:Act} (h:Rel n ρ a) {dst:Option Nat} (hd:Fc n dst=true) (v:Value) :
  Rel n (ry ρ dst v) (a.put dst v):=by
 cases dst with
 | none=>exact h
 | some d=>
  have hdn:d<n:=by simpa [Fc,Nat.blt_eq] using hd
  refine ⟨by simp [Act.put,h.size],fun t ht=>?_,fun t ht=>by rw [ry,qA ρ v (by omega)]; exact h.out t ht,h.defers⟩
  by_cases e:t=d
  ·subst e
   simp [Act.put,ry,BS,h.size,ht]
  ·simp only [Act.put,ry,qA ρ v e]
   rw [QU (by omega)]
   exact h.at_ t ht

theorem K5 {n:Nat} {ρ:Env} {a:Act} (h:Rel n ρ a) {o:Oper} (hs:Ms o.op=true)
  (ho:o.op.operands.toList.all (NK n)=true):execOp a.eval o=execOp (evE ρ) o:=by
 refine execOp_congr o ?_ ?_
 ·intro cs b e; rw [e] at hs; simp [Ms] at hs
 ·intro x hx
  exact h.eval (ed.1 ho x (Array.mem_toList_iff.2 hx))

theorem Mm (ρ:Env) (o:Oper):execOp (evE ρ) o=IW ρ o:=by
 obtain ⟨dst,op,type,pos,after,guard⟩:=o
 cases op <;> try rfl
 case binOp op T x y u=>
  have hm:∀ (x:Operand),(match (bif isC x then Operand.const (evE ρ x) else .tmp 0) with|.const _=>true|_=>false)=(match x with|.const _=>true|_=>false):=by
   intro x; cases x <;> rfl
  simp only [execOp,IW,cw]
  have hg:eqGuard op T x y (evE ρ x) (evE ρ y)=eqGuard op T (bif isC x then Operand.const (evE ρ x) else .tmp 0) (bif isC y then Operand.const (evE ρ y) else .tmp 0) (evE ρ x) (evE ρ y):=by
   cases x <;> cases y <;> rfl
  rw [hg]
  exact bind_assoc _ _ _
 case build t ps=>
  simp only [execOp,IW,cn]
  congr 2
  exact (Bk.1 (by simp))
 case buildSlice t n ps=>
  simp only [execOp,IW,bF]
  congr 2
  exact (Bk.1 (by simp))
 case makeFunc fn a b=>
  simp only [execOp,IW,dR]
  congr 2
  ·exact (Bk.1 (by simp))
  ·exact (Bk.1 (by simp))
 case makeMap t r=>cases r <;> rfl
 case slice t x l h m=>cases l <;> cases h <;> cases m <;> rfl
 case call c=>
  obtain ⟨callee,args,argTypes⟩:=c
  have ha:args.map (evE ρ)=(args.toList.map (evE ρ)).toArray:=Bk.1 (by simp)
  cases callee with
  | value f=>
   simp only [execOp,IW,er,resolve,ha]
  | builtin b=>
   have hb:(args.map fun (x:Operand)=>(match x with|.const _=>true|_=>false))=(args.toList.map isC).toArray:=Bk.1 (by
    simp only [Array.toList_map]
    congr 1)
   simp only [execOp,IW,bH,resolve,ha]
   rw [<- hb]
   rfl
  | invoke r m=>rfl

theorem stepE.run {P:Program} {o:Oper} {ρ:Env} {w:World} {K:Value->World->Prop} (h:stepE P o ρ w K):Run P (execOp (evE ρ) o) w K:=by
 rw [Mm]
 obtain ⟨dst,op,type,pos,after,guard⟩:=o
 cases op <;> exact h
theorem Run.step {P:Program} {o:Oper} {ρ:Env} {w:World} {K:Value->World->Prop} (h:Run P (execOp (evE ρ) o) w K):stepE P o ρ w K:=by
 rw [Mm] at h
 obtain ⟨dst,op,type,pos,after,guard⟩:=o
 cases op <;> exact h
theorem Run.mono {P:Program} {s:Sem Next} {w:World} {K K':Value->World->Prop} (h:Run P s w K) (hk:∀ v w,K v w->K' v w) :
  Run P s w K':=by
 unfold Run at *
 split at h
 ·exact hk _ _ h
 ·exact hk _ _ h
 ·exact Calls.mono h fun e w' he=>by cases e <;> first|exact hk _ _ he|exact he
 ·exact h.elim

theorem stepE.mono {P:Program} {o:Oper} {ρ:Env} {w:World} {K K':Value->World->Prop} (h:stepE P o ρ w K) (hk:∀ v w,K v w->K' v w) :
  stepE P o ρ w K':=Run.step (Run.mono h.run hk)

theorem Run.wp {P:Program} {n:Nat} {ρ:Env} {a:Act} {w:World} {o:Oper} {K:Value->World->Prop} {next:Act->World->Prop}
  {Q:Exit->Act->World->Prop} (hr:Rel n ρ a) (hs:Ms o.op=true) (ho:o.op.operands.toList.all (NK n)=true)
  (h:Run P (execOp (evE ρ) o) w K) (hk:∀ v w',K v w'->next (a.put o.dst v) w'):o.wp P a w next Q:=by
 unfold Oper.wp
 rw [K5 hr hs ho]
 unfold Run at h
 split at h
 ·rename_i e; rw [e]; exact hk _ _ h
 ·rename_i e; rw [e]; exact hk _ _ h
 ·rename_i e; rw [e]
  exact Calls.mono h fun e w' he=>by cases e <;> first|exact hk _ _ he|exact he.elim
 ·exact h.elim

theorem te {n:Nat} {ρ:Env} {a:Act} (hr:Rel n ρ a) {ops:Array Oper} {o:Oper} {A B:Prop}
  (hg:mx n ops.toList o.guard=true) (h:GuardO ops.toList ρ o.guard A B) :
  (Region.wanted o (yielded ops a.tmps)=true/\A) ∨ (Region.wanted o (yielded ops a.tmps)=false/\B):=by
 unfold Region.wanted
 cases hgd:o.guard with
 | none=>rw [hgd] at h; exact .inl ⟨rfl,h⟩
 | some g=>
  obtain ⟨j,b⟩:=g
  rw [hgd] at h hg
  simp only [GuardO,mx,yielded,Array.getElem?_toList] at *
  cases hd:(ops[j]?).bind (·.dst) with
  | none=>rw [hd] at hg; simp at hg
  | some d=>
   rw [hd] at h hg
   simp only [bN,Nat.blt_eq] at hg
   simp only [Option.bind_some,hr.at_ d hg.1]
   simp only [aq] at h
   split at h
   ·rename_i c hc
    rw [hc]
    split at h
    ·rename_i e; subst e; exact .inl ⟨by simp,h⟩
    ·rename_i e; exact .inr ⟨by simpa using e,h⟩
   ·rename_i hv
    refine .inr ⟨?_,h⟩
    cases hc:ρ d <;> first|exact absurd hc (hv _)|simp

theorem wl {P:Program} {n:Nat} {ops:Array Oper} {o:Oper} {ρ:Env} {a:Act} {w:World} {K:Env->World->Prop}
  {next:Act->World->Prop} {Q:Exit->Act->World->Prop} {i:Nat} (hi:ops[i]?=some o) (hr:Rel n ρ a) (hf:lj n ops.toList o=true)
  (h:opE P ops.toList o ρ w K) (hk:∀ v w',K (ry ρ o.dst v) w'->next (a.put o.dst v) w') :
  wpOp P ops Q i next a w:=by
 simp only [lj,bN] at hf
 obtain ⟨⟨⟨h1,h2⟩,h3⟩,h4⟩:=hf
 unfold wpOp
 rw [hi]
 simp only []
 rcases te hr h4 h with ⟨hw,hA⟩|⟨hw,hB⟩
 ·rw [ai hw]; exact .inl (hA.run.wp hr h1 h3 hk)
 ·rw [af (by simp [hw])]; exact hk _ _ hB

theorem pC (i m:Nat):List.range' i (m+1)=i::List.range' (i+1) m:=rfl

theorem jX {j d:Nat}:∀ (l:List Oper) (k:Nat),iv j d k l=true->∀ i o,l[i]?=some o->k+i≠j->o.dst≠some d
 | [],_,_,i,o,hi,_=>by simp at hi
 | x::xs,k,h,i,o,hi,hne=>by
  simp only [iv,bN,iS,Nat.beq_eq,oN,beq_eq_false_iff_ne] at h
  cases i with
  | zero=>
   simp only [ER,aT] at hi
   subst hi
   rcases h.1 with e|e
   ·exact absurd (by simpa using e) (by omega)
   ·exact e
  | succ i=>
   rw [lx] at hi
   exact jX xs (k+1) h.2 i o hi (by omega)

theorem DF {g h:Option (Nat × Bool)}:iD g h=true↔g=h:=by
 cases g <;> cases h <;> simp [iD,Prod.ext_iff]

theorem wY (g:Option (Nat × Bool)):∀ l:List Oper,l=grp g l++li g l
 | []=>rfl
 | o::os=>by
  simp only [grp,li]
  cases h:iD g o.guard <;> simp
  exact wY g os
theorem MM (g:Option (Nat × Bool)):∀ (l:List Oper) (o:Oper),o∈grp g l->o.guard=g
 | [],_,h=>by simp [grp] at h
 | x::xs,o,h=>by
  simp only [grp] at h
  cases e:iD g x.guard with
  | false=>rw [e] at h; simp at h
  | true=>
   rw [e] at h
   rcases cQ.1 h with rfl|h
   ·exact (DF.1 e).symm
   ·exact MM g xs o h
theorem wa (g:Option (Nat × Bool)):∀ l:List Oper,(li g l).length<=l.length
 | []=>by simp [li]
 | x::xs=>by
  simp only [li]
  cases iD g x.guard
  ·simp
  ·simpa using KF (wa g xs)

section ops
variable {P:Program} {n:Nat} {ops:Array Oper} {Q:Exit->Act->World->Prop}
def B8 (n:Nat) (ops:Array Oper):Prop:=∀ o∈ops.toList,lj n ops.toList o=true

theorem B6 (hf:B8 n ops) {j d:Nat} {b:Bool} (hj:(ops.toList[j]?).bind (·.dst)=some d) :
  ∀ (l:List Oper) (i:Nat) (ρ:Env) (a:Act) (w:World) (K:Env->World->Prop) (rest:List Nat),
   (∀ k o,l[k]?=some o->ops.toList[i+k]?=some o/\o.guard=some (j,b))->j<i->ρ d=.bool b->Rel n ρ a->Ng P l ρ w K->
   (∀ ρ' a' w',Rel n ρ' a'->K ρ' w'->wpOps P ops Q rest a' w')->wpOps P ops Q (List.range' i l.length++rest) a w
 | [],i,ρ,a,w,K,rest,_,_,_,hr,h,hk=>hk _ _ _ hr h
 | o::os,i,ρ,a,w,K,rest,hl,hji,hd,hr,h,hk=>by
  obtain ⟨h0,hg⟩:=hl 0 o rfl
  rw [CJ] at h0
  have hm:o∈ops.toList:=du h0
  have hfo:=hf o hm
  have h0':ops[i]?=some o:=by simpa using h0
  have hfo':=hfo
  simp only [lj,bN] at hfo'
  obtain ⟨⟨⟨h1,h2⟩,h3⟩,h4⟩:=hfo'
  have hsw:iv j d 0 ops.toList=true:=by
   rw [hg] at h4; simp only [mx,hj,bN] at h4; exact h4.2
  have hne:o.dst≠some d:=jX _ 0 hsw i o h0 (by omega)
  rw [bk,pC,gt,wpOps_cons]
  refine wl (ρ:=ρ) (w:=w) (K:=fun ρ' w'=>(ρ' d=.bool b)/\Ng P os ρ' w' K) h0' hr hfo ?_ ?_
  ·unfold opE
   rw [hg]
   simp only [GuardO,hj,aq,hd,if_true]
   refine stepE.mono h fun v w' hh=>⟨?_,hh⟩
   cases hdst:o.dst with
   | none=>exact hd
   | some e=>rw [ry,qA]; exact hd; intro ee; exact hne (by rw [hdst,ee])
  ·intro v w' hh
   exact B6 hf hj os (i+1) _ _ w' K rest (fun k o' hk'=>by
    have:=hl (k+1) o' (by simpa using hk')
    rw [show i+1+k=i+(k+1) by omega]; exact this) (by omega) hh.1 (hr.put h2 v) hh.2 hk

theorem yS (hf:B8 n ops) {j d:Nat} {b:Bool} (hj:(ops.toList[j]?).bind (·.dst)=some d) :
  ∀ (l:List Oper) (i:Nat) (ρ:Env) (a:Act) (w:World) (rest:List Nat),
   (∀ k o,l[k]?=some o->ops.toList[i+k]?=some o/\o.guard=some (j,b))->j<i->ρ d≠.bool b->Rel n ρ a->
   (∀ a',Rel n (Hv l ρ) a'->wpOps P ops Q rest a' w)->wpOps P ops Q (List.range' i l.length++rest) a w
 | [],i,ρ,a,w,rest,_,_,_,hr,hk=>hk _ hr
 | o::os,i,ρ,a,w,rest,hl,hji,hd,hr,hk=>by
  obtain ⟨h0,hg⟩:=hl 0 o rfl
  rw [CJ] at h0
  have hm:o∈ops.toList:=du h0
  have hfo:=hf o hm
  have h0':ops[i]?=some o:=by simpa using h0
  have hfo':=hfo
  simp only [lj,bN] at hfo'
  obtain ⟨⟨⟨h1,h2⟩,h3⟩,h4⟩:=hfo'
  have hsw:iv j d 0 ops.toList=true:=by
   rw [hg] at h4; simp only [mx,hj,bN] at h4; exact h4.2
  have hne:o.dst≠some d:=jX _ 0 hsw i o h0 (by omega)
  have hpd:ry ρ o.dst undef d=ρ d:=by
   cases hdst:o.dst with
   | none=>rfl
   | some e=>rw [ry,qA]; intro ee; exact hne (by rw [hdst,ee])
  rw [bk,pC,gt,wpOps_cons]
  have hg4:=h4
  have hB:GuardO ops.toList ρ o.guard False True:=by
   rw [hg]; simp only [GuardO,hj,aq]
   split
   ·rename_i c hc
    split
    ·rename_i e; subst e; exact absurd hc hd
    ·trivial
   ·trivial
  rcases te hr h4 hB with ⟨_,hF⟩|⟨hw,_⟩
  ·exact hF.elim
  ·unfold wpOp
   rw [h0']
   simp only [hw,H0,if_false]
   exact yS hf hj os (i+1) _ _ w rest (fun k o' hk'=>by
    have:=hl (k+1) o' (by simpa using hk')
    rw [show i+1+k=i+(k+1) by omega]; exact this) (by omega) (by rw [hpd]; exact hd) (hr.put h2 undef) hk

theorem oj:∀ (l:List Oper) (k:Nat),iU k l=true->∀ i o j b,l[i]?=some o->o.guard=some (j,b)->j<k+i
 | [],_,_,i,o,_,_,hi,_=>by simp at hi
 | x::xs,k,h,i,o,j,b,hi,hg=>by
  simp only [iU,bN] at h
  cases i with
  | zero=>
   simp only [ER,aT] at hi
   subst hi
   have:=h.1
   rw [hg] at this
   simpa [Nat.blt_eq] using this
  | succ i=>
   rw [lx] at hi
   have:=oj xs (k+1) h.2 i o j b hi hg
   omega

theorem JI (hf:B8 n ops) (hb:iU 0 ops.toList=true) :
  ∀ (m:Nat) (l:List Oper) (i:Nat) (ρ:Env) (a:Act) (w:World) (K:Env->World->Prop),l.length<m->
   ops.toList.drop i=l->Rel n ρ a->yj P ops.toList m l ρ w K->
   (∀ ρ' a' w',Rel n ρ' a'->K ρ' w'->Q .normal a' w')->wpOps P ops Q (List.range' i l.length) a w:=by
 intro m
 induction m with
 | zero=>intro l i ρ a w K hlt; omega
 | succ m ih=>
  intro l i ρ a w K hlt hl hr h hk
  cases l with
  | nil=>exact hk _ _ _ hr h
  | cons o os=>
   have hget:∀ k,(o::os)[k]?=ops.toList[i+k]?:=fun k=>by rw [<- hl,uD]
   have h0:ops.toList[i]?=some o:=by have:=hget 0; simpa using this.symm
   have hm:o∈ops.toList:=du h0
   have hfo:=hf o hm
   have h0':ops[i]?=some o:=by simpa using h0
   have hfo':=hfo
   simp only [lj,bN] at hfo'
   obtain ⟨⟨⟨h1,h2⟩,h3⟩,h4⟩:=hfo'
   have hos:ops.toList.drop (i+1)=os:=by rw [<- DP,hl]; rfl
   simp only [yj] at h ih
   cases hg:o.guard with
   | none=>
    rw [hg] at h
    simp only [] at h
    rw [bk,pC,wpOps_cons]
    refine wl (ρ:=ρ) (w:=w) (K:=fun ρ' w'=>yj P ops.toList m os ρ' w' K) h0' hr hfo ?_ ?_
    ·unfold opE; rw [hg]; exact h
    ·intro v w' hh
     exact ih os (i+1) _ _ w' K (by simp at hlt; omega) hos (hr.put h2 v) hh hk
   | some g=>
    obtain ⟨j,b⟩:=g
    rw [hg] at h
    simp only [] at h
    have hsplit:=wY (some (j,b)) os
    have hji:j<i:=by have:=oj _ 0 hb i o j b h0 hg; omega
    obtain ⟨d,hj⟩:∃ d,(ops.toList[j]?).bind (·.dst)=some d:=by
     rw [hg] at h4
     simp only [mx] at h4
     cases hd:(ops.toList[j]?).bind (·.dst) with
     | none=>rw [hd] at h4; simp at h4
     | some d=>exact ⟨d,rfl⟩
    have hpre:∀ k x,(o::grp (some (j,b)) os)[k]?=some x->ops.toList[i+k]?=some x/\x.guard=some (j,b):=by
     intro k x hx
     have hx':(o::os)[k]?=some x:=by
      rw [hsplit,<- gt,vo]
      ·exact hx
      ·exact (fu.1 hx).1
     refine ⟨by rw [<- hget k]; exact hx',?_⟩
     rcases cQ.1 (du hx) with rfl|hmem
     ·exact hg
     ·exact MM _ _ _ hmem
    have hlen:(o::os).length=(o::grp (some (j,b)) os).length+(li (some (j,b)) os).length:=by
     have:=congrArg List.length hsplit
     simp only [bh] at this
     simp only [bk]; omega
    have hrest:ops.toList.drop (i+(o::grp (some (j,b)) os).length)=li (some (j,b)) os:=by
     rw [<- DP,hl]
     have e:o::os=(o::grp (some (j,b)) os)++li (some (j,b)) os:=by rw [gt,<- hsplit]
     rw [e,Me]
    have hlt':(li (some (j,b)) os).length<m:=by
     have:=wa (some (j,b)) os
     simp at hlt; omega
    rw [hlen,<- List.range'_append_1]
    simp only [GuardO,hj] at h
    by_cases hd:ρ d=.bool b
    ·rw [hd] at h
     simp only [aq,if_true] at h
     exact B6 hf hj _ i ρ a w _ _ hpre hji hd hr h fun ρ' a' w' hr' hh=>ih _ _ ρ' a' w' K hlt' hrest hr' hh hk
    ·have hB:yj P ops.toList m (li (some (j,b)) os) (Hv (o::grp (some (j,b)) os) ρ) w K:=by
      simp only [aq] at h
      split at h
      ·rename_i c hc
       split at h
       ·rename_i e; subst e; exact absurd hc hd
       ·exact h
      ·exact h
     exact yS hf hj _ i ρ a w _ hpre hji hd hr fun a' hr'=>ih _ _ _ a' w K hlt' hrest hr' hB hk

theorem sT:∀ (l:List Edge) {D:Nat->Bool} {p:Prop},si l D p->(∀ e∈l,Region.binds .any e=true->D e.on=true)->p
 | [],_,_,h,_=>h
 | e::es,D,p,h,hd=>by
  simp only [si] at h
  cases hb:Region.binds .any e with
  | false=>rw [hb] at h; exact sT es h fun e' he'=>hd e' (bv _ he')
  | true=>rw [hb] at h; exact sT es (h (hd e (bq ..) hb)) fun e' he'=>hd e' (bv _ he')
theorem vy {D:Nat->Bool} {p:Prop}:∀ n:Nat,uZ n D p->(∀ i,i<n->D i=true)->p
 | 0,h,_=>h
 | n+1,h,hd=>vy n (h (hd n (KP n))) fun i hi=>hd i (by omega)
def MO (P:Program) (all:List Oper) (A:(Nat->Bool)->Env->World->Prop):Nat->List Oper->Prop
 | _,[]=>True
 | i,o::os=>(∀ D ρ w,D i=false->si o.after.toList D (A D ρ w->opE P all o ρ w fun ρ' w'=>A (aB D i) ρ' w'))/\MO P all A (i+1) os
theorem rM {A:(Nat->Bool)->Env->World->Prop} {all:List Oper}:∀ (l:List Oper) (k i:Nat) (o:Oper),MO P all A k l->l[i]?=some o->
  ∀ D ρ w,D (k+i)=false->si o.after.toList D (A D ρ w->opE P all o ρ w fun ρ' w'=>A (aB D (k+i)) ρ' w')
 | [],_,i,_,_,hi=>by simp at hi
 | x::xs,k,0,o,h,hi=>by
  simp only [ER,aT] at hi
  subst hi
  exact h.1
 | x::xs,k,i+1,o,h,hi=>by
  rw [lx] at hi
  have:=rM xs (k+1) i o h.2 hi
  rw [show k+1+i=k+(i+1) by omega] at this
  exact this
theorem Ei:∀ (l:List Edge) {i:Nat},LX i l=true->∀ e∈l,Region.binds .any e=true->e.on<i
 | [],_,_,e,he=>by simp at he
 | x::xs,i,h,e,he=>by
  simp only [LX,bN,iS,oN,Nat.blt_eq] at h
  rcases cQ.1 he with rfl|he
  ·intro hb
   rcases h.1 with h1|h1
   ·rw [h1] at hb; cases hb
   ·exact h1
  ·exact Ei xs h.2 e he
theorem DZ:∀ (l:List Oper) (k:Nat),AB k l=true->∀ i o,l[i]?=some o->∀ e∈o.after.toList,Region.binds .any e=true->e.on<k+i
 | [],_,_,i,o,hi=>by simp at hi
 | x::xs,k,h,i,o,hi=>by
  simp only [AB,bN] at h
  cases i with
  | zero=>
   simp only [ER,aT] at hi
   subst hi
   exact fun e he=>Ei _ h.1 e he
  | succ i=>
   rw [lx] at hi
   intro e he hb
   have:=DZ xs (k+1) h.2 i o hi e he hb
   omega

theorem wS {ops:Array Oper} {listed:Array Bool} {i:Nat}:i∈Region.ready .any ops listed ↔
  i<ops.size/\listed.getD i true=false/\∃ o,ops[i]?=some o/\∀ e∈o.after.toList,Region.binds .any e=true->listed.getD e.on false=true:=by
 simp only [Region.ready,Il,List.mem_range,bN,oN]
 constructor
 ·rintro ⟨h1,h2,h3⟩
  refine ⟨h1,h2,ops[i],by simp [h1],fun e he hb=>?_⟩
  simp only [h1,getElem?_pos,wz,Option.getD_some,Array.all_eq_true] at h3
  obtain ⟨k,hk,rfl⟩:=yf he
  have:=h3 k (by simpa using hk)
  simp only [Array.getElem_toList] at hb ⊢
  rw [hb] at this
  simpa using this
 ·rintro ⟨h1,h2,o,ho,h3⟩
  refine ⟨h1,h2,?_⟩
  rw [ho]
  simp only [wz,Option.getD_some,Array.all_eq_true]
  intro k hk
  cases hb:Region.binds .any (o.after[k]) with
  | false=>simp
  | true=>simpa using h3 _ (by simp) hb

theorem KX {ops:Array Oper} {listed:Array Bool} (hsz:listed.size=ops.size) (hb:AB 0 ops.toList=true)
  (h:Region.ready .any ops listed=[]):∀ i,i<ops.size->listed.getD i false=true:=by
 intro i
 induction i using Nat.strongRecOn with
 | _ i ih=>
  intro hi
  by_cases hl:listed.getD i false=true
  ·exact hl
  ·exfalso
   have hi':i<listed.size:=by omega
   have:i∈Region.ready .any ops listed:=by
    rw [wS]
    refine ⟨hi,?_,ops[i],by simp [hi],fun e he hbe=>?_⟩
    ·simpa [Array.getD_eq_getD_getElem?,hi'] using hl
    ·have:=DZ _ 0 hb i ops[i] (by simp [hi]) e he hbe
     exact ih e.on (by omega) (by omega)
   rw [h] at this
   simp at this

theorem N0 {listed:Array Bool} {i:Nat} (hi:i<listed.size) (j:Nat) :
  (listed.setIfInBounds i true).getD j false=aB (fun j=>listed.getD j false) i j:=by
 simp only [aB,Array.getD_eq_getD_getElem?]
 by_cases e:j=i
 ·subst e
  simp [hi]
 ·rw [QU (by omega)]
  simp [e]

theorem Kz (hf:B8 n ops) (hb:AB 0 ops.toList=true) {A:(Nat->Bool)->Env->World->Prop}
  (hA:MO P ops.toList A 0 ops.toList) 
  (hQ:∀ D ρ a w,Rel n ρ a->(∀ i,i<ops.size->D i=true)->A D ρ w->Q .normal a w) :
  ∀ (fuel:Nat) (listed:Array Bool) (ρ:Env) (a:Act) (w:World),listed.size=ops.size->Rel n ρ a->A (fun j=>listed.getD j false) ρ w->
   (∀ k,k+fuel=ops.size->k<=(listed.toList.filter id).length)->
   wpAny P .any ops Q fuel listed a w:=by
 intro fuel
 induction fuel with
 | zero=>
  intro listed ρ a w hsz hr h hcount
  have hc:=hcount ops.size (by omega)
  have hall:∀ i,i<ops.size->listed.getD i false=true:=by
   intro i hi
   have hle:(listed.toList.filter id).length<=listed.toList.length:=IJ _ _
   have heq:(listed.toList.filter id).length=listed.toList.length:=by simp at *; omega
   have:=(List.length_filter_eq_length_iff.1 heq) (listed[i]) (by simp)
   simpa [Array.getD_eq_getD_getElem?,show i<listed.size by omega] using this
  refine ⟨?_,hQ _ ρ a w hr hall h⟩
  cases hrd:Region.ready .any ops listed with
  | nil=>rfl
  | cons x xs=>
   have hx:x∈Region.ready .any ops listed:=by rw [hrd]; simp
   rw [wS] at hx
   have h1:=hall x hx.1
   have h2:=hx.2.1
   have hxs:x<listed.size:=by omega
   simp [Array.getD_eq_getD_getElem?,hxs] at h1 h2
   rw [h1] at h2; simp at h2
 | succ fuel ih=>
  intro listed ρ a w hsz hr h hcount
  refine ⟨fun hnil=>hQ _ ρ a w hr (KX hsz hb hnil) h,fun i hi=>?_⟩
  rw [wS] at hi
  obtain ⟨hi1,hi2,o,ho,hi3⟩:=hi
  have hil:i<listed.size:=by omega
  have hD:listed.getD i false=false:=by
   simpa [Array.getD_eq_getD_getElem?,hil] using hi2
  have hol:ops.toList[i]?=some o:=by simpa using ho
  have hstep:=rM ops.toList 0 i o hA hol (fun j=>listed.getD j false) ρ w (by simpa using hD)
  rw [cZ] at hstep
  have hstep':=sT _ hstep hi3 h
  have hfo:=hf o (du hol)
  have h2:Fc n o.dst=true:=by
   simp only [lj,bN] at hfo; exact hfo.1.1.2
  refine wl ho hr hfo hstep' fun v w' hh=>?_
  refine ih _ _ _ _ (by simpa using hsz) (hr.put h2 v) (by rw [show (fun j=>(listed.setIfInBounds i true).getD j false)=aB (fun j=>listed.getD j false) i from funext (N0 hil)]; exact hh) ?_
  intro k hk
  have hc:=hcount (k - 1)
  have:(listed.toList.filter id).length+1<=((listed.setIfInBounds i true).toList.filter id).length:=by
   have hlist:(listed.setIfInBounds i true).toList=listed.toList.set i true:=by simp
   rw [hlist]
   have hg:listed.toList[i]?=some false:=by
    have:listed[i]?=some false:=by
     simp [Array.getD_eq_getD_getElem?,hil] at hD
     simp [hil,hD]
    simpa using this
   exact aux i _ hg
  by_cases hk0:k=0
  ·omega
  ·have:=hc (by omega)
   omega
where
 aux:∀ (i:Nat) (xs:List Bool),xs[i]?=some false->(xs.filter id).length+1<=((xs.set i true).filter id).length
  | i,[],h=>by simp at h
  | 0,x::xs,h=>by simp at h; subst h; simp
  | i+1,x::xs,h=>by
   simp only [lx] at h
   have:=aux i xs h
   simp only [Fi,ow]
   split <;> simp <;> omega
end ops
end
section
open Go

def Wo (l:List Oper) (t:Nat):Prop:=∃ o∈l,o.dst=some t
def Wc:Code->Nat->Prop
 | .region _ ops _,t=>Wo ops.toList t
 | .seq a b,t|.cond _ a b,t=>Wc a t ∨ Wc b t
 | .block _ a,t|.loop a,t|.scope a,t=>Wc a t
 | _,_=>False

theorem jH {t:Nat}:∀ (ops:List Oper) (l:List Nat),t∈mn ops l↔t∈l ∨ Wo ops t
 | [],l=>by simp [mn,Wo]
 | o::os,l=>by
  simp only [mn]
  cases hd:o.dst with
  | none=>
   rw [jH os l]
   simp [Wo,hd]
  | some d=>
   simp only []
   cases he:l.elem d with
   | true=>
    have hm:d∈l:=by simpa using he
    simp only []
    rw [jH os l]
    simp only [Wo,cQ,exists_eq_or_imp,hd,aT]
    constructor
    ·rintro (h|h)
     ·exact .inl h
     ·exact .inr (.inr h)
    ·rintro (h|h|h)
     ·exact .inl h
     ·subst h; exact .inl hm
     ·exact .inr h
   | false=>
    simp only []
    rw [jH os (d::l)]
    simp only [Wo,cQ,exists_eq_or_imp,hd,aT]
    constructor
    ·rintro ((h|h)|h)
     ·exact .inr (.inl h.symm)
     ·exact .inl h
     ·exact .inr (.inr h)
    ·rintro (h|h|h)
     ·exact .inl (.inr h)
     ·exact .inl (.inl h.symm)
     ·exact .inr h

theorem jY {t:Nat}:∀ (c:Code) (l:List Nat),t∈wr c l↔t∈l ∨ Wc c t
 | .region _ ops _,l=>jH ops.toList l
 | .seq a b,l=>by simp only [wr,Wc]; rw [jY b,jY a,or_assoc]
 | .cond _ a b,l=>by simp only [wr,Wc]; rw [jY b,jY a,or_assoc]
 | .block _ a,l=>by simp only [wr,Wc]; exact jY a l
 | .loop a,l=>by simp only [wr,Wc]; exact jY a l
 | .scope a,l=>by simp only [wr,Wc]; exact jY a l
 | .skip,l|.ret,l|.exit _,l|.label _,l|.goto _,l|.refuse _,l|.rangeFunc ..,l=>by simp [wr,Wc]

def Agr (W:Nat->Prop) (ρ ρ':Env):Prop:=∀ t,¬ W t->ρ' t=ρ t
theorem Agr.refl (W:Nat->Prop) (ρ:Env):Agr W ρ ρ:=fun _ _=>rfl
theorem Agr.trans {W:Nat->Prop} {ρ ρ' ρ'':Env} (h:Agr W ρ ρ') (h':Agr W ρ' ρ''):Agr W ρ ρ'':=fun t ht=>(h' t ht).trans (h t ht)
theorem Agr.mono {W W':Nat->Prop} {ρ ρ':Env} (h:Agr W ρ ρ') (hw:∀ t,W t->W' t):Agr W' ρ ρ':=fun t ht=>h t fun hh=>ht (hw t hh)
theorem Agr.put {W:Nat->Prop} (ρ:Env) (dst:Option Nat) (v:Value) (h:∀ d,dst=some d->W d):Agr W ρ (ry ρ dst v):=by
 cases dst with
 | none=>exact Agr.refl _ _
 | some d=>exact fun t ht=>qA ρ v fun e=>ht (e ▸ h d rfl)

theorem ew:∀ (l:List Nat) (ρ:Env) (p:Env->Prop),jC l ρ p->∀ ρ',(∀ t,t ∉ l->ρ' t=ρ t)->p ρ'
 | [],ρ,p,h,ρ',e=>by have:ρ'=ρ:=funext fun t=>e t (by simp); rw [this]; exact h
 | m::l,ρ,p,h,ρ',e=>by
  refine ew l (upd ρ m (ρ' m)) p (h (ρ' m)) ρ' fun t ht=>?_
  by_cases hm:t=m
  ·subst hm; rw [BS]
  ·rw [qA _ _ hm]; exact e t (by simp [hm,ht])
theorem iH:∀ (l:List Nat) (ρ:Env) (p:Env->Prop),(∀ ρ',(∀ t,t ∉ l->ρ' t=ρ t)->p ρ')->jC l ρ p
 | [],ρ,p,h=>h ρ fun _ _=>rfl
 | m::l,ρ,p,h=>fun x=>iH l _ p fun ρ' e=>h ρ' fun t ht=>by
   have hne:t≠m:=fun hh=>ht (by rw [hh]; exact bq ..)
   rw [e t (fun hh=>ht (bv _ hh)),qA _ _ hne]

theorem GuardO.mono {ops:List Oper} {ρ:Env} {g:Option (Nat × Bool)} {A B A' B':Prop} (h:GuardO ops ρ g A B) (ha:A->A') (hb:B->B') :
  GuardO ops ρ g A' B':=by
 unfold GuardO aq at *
 split
 ·exact ha h
 ·rename_i j b
  simp only [] at h
  split
  ·rename_i d hd
   rw [hd] at h
   simp only [] at h
   split
   ·rename_i c hc
    rw [hc] at h
    simp only [] at h
    split
    ·rename_i e; rw [ai e] at h; exact ha h
    ·rename_i e; rw [af e] at h; exact hb h
   ·rename_i hv
    split at h
    ·rename_i c hc; exact absurd hc (hv c)
    ·exact hb h
  ·rename_i hd
   rw [hd] at h
   exact hb h

section mono
variable {P:Program}
theorem DM:∀ (l:List Oper) (ρ:Env) (w:World) (K K':Env->World->Prop),Ng P l ρ w K->
  (∀ ρ' w',Agr (Wo l) ρ ρ'->K ρ' w'->K' ρ' w')->Ng P l ρ w K'
 | [],ρ,w,K,K',h,hk=>hk _ _ (Agr.refl _ _) h
 | o::os,ρ,w,K,K',h,hk=>by
  refine stepE.mono h fun v w' hh=>DM os _ w' K K' hh fun ρ' w'' ha=>hk ρ' w'' ?_
  exact (Agr.put ρ o.dst v fun d hd=>⟨o,bq ..,hd⟩).trans
   (ha.mono fun t ⟨o',h1,h2⟩=>⟨o',bv _ h1,h2⟩)
theorem Ef:∀ (l:List Oper) (ρ:Env),Agr (Wo l) ρ (Hv l ρ)
 | [],_=>Agr.refl _ _
 | o::os,ρ=>(Agr.put ρ o.dst undef fun _ hd=>⟨o,bq ..,hd⟩).trans
   ((Ef os _).mono fun _ ⟨o',h1,h2⟩=>⟨o',bv _ h1,h2⟩)

theorem Kn {all:List Oper}:∀ (m:Nat) (l:List Oper) (ρ:Env) (w:World) (K K':Env->World->Prop),yj P all m l ρ w K->
  (∀ ρ' w',Agr (Wo l) ρ ρ'->K ρ' w'->K' ρ' w')->yj P all m l ρ w K':=by
 intro m
 induction m with
 | zero=>intro l ρ w K K' h; exact h.elim
 | succ m ih=>
  intro l ρ w K K' h hk
  cases l with
  | nil=>exact hk _ _ (Agr.refl _ _) h
  | cons o os=>
   simp only [yj] at h ih ⊢
   cases hg:o.guard with
   | none=>
    rw [hg] at h
    simp only [] at h ⊢
    refine stepE.mono h fun v w' hh=>ih os _ w' K K' hh fun ρ' w'' ha=>hk ρ' w'' ?_
    exact (Agr.put ρ o.dst v fun d hd=>⟨o,bq ..,hd⟩).trans
     (ha.mono fun t ⟨o',h1,h2⟩=>⟨o',bv _ h1,h2⟩)
   | some g=>
    rw [hg] at h
    simp only [] at h ⊢
    have hs:=wY (some g) os
    have w1:∀ t,Wo (o::grp (some g) os) t->Wo (o::os) t:=fun t ⟨o',h1,h2⟩=>⟨o',by
     rw [hs,<- gt]; exact eM _ h1,h2⟩
    have w2:∀ t,Wo (li (some g) os) t->Wo (o::os) t:=fun t ⟨o',h1,h2⟩=>⟨o',by
     rw [hs,<- gt]; exact kw _ h1,h2⟩
    refine GuardO.mono h (fun hh=>?_) (fun hh=>?_)
    ·refine DM _ _ _ _ _ hh fun ρ' w' ha hh'=>ih _ _ _ K K' hh' fun ρ'' w'' ha'=>hk ρ'' w'' ?_
     exact (ha.mono w1).trans (ha'.mono w2)
    ·refine ih _ _ _ K K' hh fun ρ'' w'' ha'=>hk ρ'' w'' ?_
     exact ((Ef _ _).mono w1).trans (ha'.mono w2)

theorem sx:∀ (l:List Edge) {D:Nat->Bool} {p q:Prop},si l D p->(p->q)->si l D q
 | [],_,_,_,h,hq=>hq h
 | e::es,D,p,q,h,hq=>by
  simp only [si] at h ⊢
  cases hb:Region.binds .any e with
  | false=>rw [hb] at h; exact sx es h hq
  | true=>rw [hb] at h; exact fun hd=>sx es (h hd) hq
theorem vU {D:Nat->Bool} {p q:Prop}:∀ n:Nat,uZ n D p->(p->q)->uZ n D q
 | 0,h,hq=>hq h
 | n+1,h,hq=>fun hd=>vU n (h hd) hq
theorem Oe {all:List Oper} {o:Oper} {ρ:Env} {w:World} {K K':Env->World->Prop} (h:opE P all o ρ w K)
  (hk:∀ v w',K (ry ρ o.dst v) w'->K' (ry ρ o.dst v) w'):opE P all o ρ w K':=
 GuardO.mono h (fun hh=>stepE.mono hh fun v w'=>hk v w') (hk _ _)
theorem FO:∀ (l:List Nat) (ρ:Env) {p q:Env->Prop},jC l ρ p->(∀ ρ',(∀ t,t ∉ l->ρ' t=ρ t)->p ρ'->q ρ')->jC l ρ q:=
 fun l ρ p _ h hq=>iH l ρ _ fun ρ' e=>hq ρ' e (ew l ρ p h ρ' e)
theorem ID {ops:List Oper} {ρ:Env} {w:World} {K K':Env->World->Prop} (h:Ld P ops ρ w K)
  (hk:∀ ρ' w',Agr (Wo ops) ρ ρ'->K ρ' w'->K' ρ' w'):Ld P ops ρ w K':=by
 obtain ⟨A,h1,h2,h3⟩:=h
 refine ⟨A,h1,h2,fun D=>?_⟩
 refine vU _ (h3 D) fun hh=>FO _ _ hh fun ρ' hρ' hp w' hA=>hk ρ' w' (fun t ht=>hρ' t fun hm=>ht ?_) (hp w' hA)
 exact ((jH ops []).1 hm).resolve_left (by simp)
theorem sc {all:List Oper} {M:List Nat} {A:(Nat->Bool)->Cur (World->Prop) M} {ρ:Env} (hM:∀ t,Wo all t->t∈M):∀ (l:List Oper) (i:Nat),(∀ t,Wo l t->Wo all t)->
  wh P all M A ρ i l->MO P all (fun D ρ' w'=>ap M (A D) ρ' w'/\Agr (Wo all) ρ ρ') i l
 | [],_,_,_=>trivial
 | o::os,i,hw,h=>by
  refine ⟨fun D ρ' w' hD=>?_,sc hM os (i+1) (fun t ⟨o',h1,h2⟩=>hw t ⟨o',bv _ h1,h2⟩) h.2⟩
  refine sx _ (h.1 D hD) fun hh hA=>?_
  have h1:=ew _ _ _ hh ρ' (fun t ht=>hA.2 t fun hwt=>ht (hM t hwt)) w' hA.1
  exact Oe h1 fun v w'' hv=>⟨hv,hA.2.trans (Agr.put ρ' o.dst v fun d hd=>hw d ⟨o,bq ..,hd⟩)⟩

theorem CondV.mono {v:Value} {A B A' B':Prop} (h:CondV v A B) (ha:A->A') (hb:B->B'):CondV v A' B':=by
 unfold CondV at *
 split
 ·rename_i c
  simp only [] at h
  split
  ·rename_i e; rw [ai e] at h; exact ha h
  ·rename_i e; rw [af e] at h; exact hb h
 ·rename_i hv
  split at h
  ·rename_i c; exact absurd rfl (hv c)
  ·exact h

theorem iP {K K':Env->World->Prop} {Q Q':Exit->Env->World->Prop} {ρ:Env} {w:World} (hk:K ρ w->K' ρ w)
  (hq:∀ e,Q e ρ w->Q' e ρ w):∀ e,yc K Q e ρ w->yc K' Q' e ρ w:=by
 intro e
 cases e <;> first|exact hk|exact hq _

theorem iK:∀ (c:Code) (an:An) (Q Q':Exit->Env->World->Prop) (ρ:Env) (w:World),vc P c an Q ρ w->
  (∀ e ρ' w',Agr (Wc c) ρ ρ'->Q e ρ' w'->Q' e ρ' w')->vc P c an Q' ρ w
 | .skip,an,Q,Q',ρ,w,h,hq=>hq _ _ _ (Agr.refl _ _) h
 | .ret,an,Q,Q',ρ,w,h,hq=>hq _ _ _ (Agr.refl _ _) h
 | .exit id,an,Q,Q',ρ,w,h,hq=>hq _ _ _ (Agr.refl _ _) h
 | .region id ops draw,an,Q,Q',ρ,w,h,hq=>by
  simp only [vc] at h ⊢
  cases draw with
  | true=>exact ID h fun ρ' w' ha=>hq _ ρ' w' ha
  | false=>exact Kn _ _ _ _ _ _ (by simpa only [cond_false] using h) fun ρ' w' ha=>hq _ ρ' w' ha
 | .seq a b,an,Q,Q',ρ,w,h,hq=>by
  simp only [vc] at h ⊢
  cases hc:an.cut with
  | none=>
   rw [hc] at h
   simp only [] at h ⊢
   refine iK a _ _ _ ρ w h fun e ρ' w' ha=>?_
   refine iP (fun hh=>?_) (fun e' hh=>hq e' ρ' w' (ha.mono fun t=>.inl) hh) e
   exact iK b _ _ _ ρ' w' hh fun e' ρ'' w'' ha'=>hq e' ρ'' w'' ((ha.mono fun t=>.inl).trans (ha'.mono fun t=>.inr))
  | some lv=>
   rw [hc] at h
   simp only [] at h ⊢
   obtain ⟨J,h1,h2⟩:=h
   refine ⟨J,?_,?_⟩
   ·refine iK a _ _ _ ρ w h1 fun e ρ' w' ha=>?_
    exact iP id (fun e' hh=>hq e' ρ' w' (ha.mono fun t=>.inl) hh) e
   ·refine iH _ _ _ fun ρ' hρ' w' hJ=>?_
    have ha:Agr (Wc a) ρ ρ':=fun t ht=>hρ' t fun hm=>ht (((jY a []).1 hm).resolve_left (by simp))
    exact iK b _ _ _ ρ' w' (ew _ _ _ h2 ρ' hρ' w' hJ) fun e' ρ'' w'' ha'=>
     hq e' ρ'' w'' ((ha.mono fun t=>.inl).trans (ha'.mono fun t=>.inr))
 | .cond x a b,an,Q,Q',ρ,w,h,hq=>by
  simp only [vc] at h ⊢
  exact CondV.mono h (fun hh=>iK a _ _ _ ρ w hh fun e ρ' w' ha=>hq e ρ' w' (ha.mono fun t=>.inl))
   (fun hh=>iK b _ _ _ ρ w hh fun e ρ' w' ha=>hq e ρ' w' (ha.mono fun t=>.inr))
 | .block id a,an,Q,Q',ρ,w,h,hq=>by
  simp only [vc] at h ⊢
  refine iK a _ _ _ ρ w h fun e ρ' w' ha hh=>?_
  cases e with
  | exit id'=>
   simp only [KA] at hh ⊢
   cases hb:Nat.beq id' id <;> rw [hb] at hh <;> exact hq _ ρ' w' ha hh
  | _=>exact hq _ ρ' w' ha hh
 | .loop a,an,Q,Q',ρ,w,h,hq=>by
  simp only [vc] at h ⊢
  obtain ⟨I,μ,h1,h2⟩:=h
  refine ⟨I,μ,h1,iH _ _ _ fun ρ' hρ' w' hI=>?_⟩
  have ha:Agr (Wc a) ρ ρ':=fun t ht=>hρ' t fun hm=>ht (((jY a []).1 hm).resolve_left (by simp))
  refine iK a _ _ _ ρ' w' (ew _ _ _ h2 ρ' hρ' w' hI) fun e ρ'' w'' ha'=>?_
  exact iP id (fun e' hh=>hq e' ρ'' w'' (ha.trans ha') hh) e
 | .scope ..,_,_,_,_,_,h,_|.label ..,_,_,_,_,_,h,_|.goto ..,_,_,_,_,_,h,_|.refuse ..,_,_,_,_,_,h,_
 | .rangeFunc ..,_,_,_,_,_,h,_=>h.elim
end mono

def EO (a:Act):Env:=fun t=>a.tmps.getD t undef
theorem Rel.env {n:Nat} {ρ:Env} {a:Act} (h:Rel n ρ a):ρ=EO a:=by
 funext t
 by_cases ht:t<n
 ·simp [EO,Array.getD_eq_getD_getElem?,h.at_ t ht]
 ·rw [h.out t (by omega)]
  simp [EO,Array.getD_eq_getD_getElem?,h.size,show ¬ t<n from ht]

section sound
variable {P:Program} {n:Nat}
def post (n:Nat) (Q:Exit->Env->World->Prop):Exit->Act->World->Prop:=fun e a w=>∃ ρ,Rel n ρ a/\Q e ρ w

theorem wO {K:Env->World->Prop} {Q:Exit->Env->World->Prop} {next:Act->World->Prop} {Q':Exit->Act->World->Prop} {a:Act} {w:World}
  (hk:∀ ρ,Rel n ρ a->K ρ w->next a w) (hq:∀ e ρ,Rel n ρ a->Q e ρ w->Q' e a w):∀ e,post n (yc K Q) e a w->Exit.then next Q' e a w:=by
 rintro e ⟨ρ,hr,h⟩
 cases e <;> first|exact hk ρ hr h|exact hq _ ρ hr h

theorem gT (hm:P.follows .mixedOrders=true):∀ (c:Code) (an:An) (Q:Exit->Env->World->Prop) (ρ:Env) (w:World) (a:Act),Rel n ρ a->
  xh n c=true->vc P c an Q ρ w->c.wp P (post n Q) a w
 | .skip,an,Q,ρ,w,a,hr,_,h=>wp_skip ⟨ρ,hr,h⟩
 | .ret,an,Q,ρ,w,a,hr,_,h=>wp_ret ⟨ρ,hr,h⟩
 | .exit id,an,Q,ρ,w,a,hr,_,h=>wp_exit ⟨ρ,hr,h⟩
 | .region id ops draw,an,Q,ρ,w,a,hr,hf,h=>by
  simp only [xh,bN,iS,oN] at hf
  obtain ⟨⟨hf1,hf2⟩,hf3⟩:=hf
  have hfa:B8 n ops:=fun o ho=>ed.1 hf1 o ho
  simp only [vc] at h
  cases draw with
  | true=>
   obtain ⟨A,h1,h2,h3⟩:=h
   have hb:AB 0 ops.toList=true:=by simpa using hf3
   refine wp_region_any hm ?_
   have hW:∀ t,Wo ops.toList t->t∈mn ops.toList []:=fun t ht=>(jH _ _).2 (.inr ht)
   refine Kz hfa hb (sc hW _ 0 (fun _ h=>h) h2) ?_ _ _ ρ a _ (by simp) hr ?_ ?_
   ·intro D ρ' a' w' hr' hD hA
    have h4:=vy _ (h3 D) (fun i hi=>hD i (by simpa using hi))
    exact ⟨ρ',hr',ew _ _ _ h4 ρ' (fun t ht=>hA.2 t fun hw=>ht (hW t hw)) w' hA.1⟩
   ·have:(fun j=>(Array.replicate ops.size false).getD j false)=fun _=>false:=by
     funext j
     simp only [Array.getD_eq_getD_getElem?,Array.getElem?_replicate]
     split <;> rfl
    rw [this]; exact ⟨h1,Agr.refl _ _⟩
   ·intro k hk; omega
  | false=>
   refine wp_region ?_
   have:=JI (Q:=post n Q) hfa hf2 _ ops.toList 0 ρ a w _ (KP _) rfl hr h fun ρ' a' w' hr' hh=>⟨ρ',hr',hh⟩
   simpa [List.range_eq_range'] using this
 | .seq x y,an,Q,ρ,w,a,hr,hf,h=>by
  simp only [xh,bN] at hf
  simp only [vc] at h
  cases hc:an.cut with
  | none=>
   rw [hc] at h
   simp only [] at h
   refine wp_seq (wp_mono (gT hm x _ _ ρ w a hr hf.1 h) fun e a' w'=>?_)
   exact wO (fun ρ' hr' hh=>gT hm y _ _ ρ' w' a' hr' hf.2 hh) (fun e' ρ' hr' hh=>⟨ρ',hr',hh⟩) e
  | some lv=>
   rw [hc] at h
   simp only [] at h
   obtain ⟨J,h1,h2⟩:=h
   have h1':=iK x _ _ (yc (fun ρ' w'=>ap lv J ρ' w'/\Agr (Wc x) ρ ρ') Q) ρ w h1 fun e ρ' w' ha=>
    iP (fun hh=>⟨hh,ha⟩) (fun _=>id) e
   refine wp_seq (wp_mono (gT hm x _ _ ρ w a hr hf.1 h1') fun e a' w'=>?_)
   refine wO (fun ρ' hr' hh=>?_) (fun e' ρ' hr' hh=>⟨ρ',hr',hh⟩) e
   refine gT hm y _ _ ρ' w' a' hr' hf.2 (ew _ _ _ h2 ρ' (fun t ht=>hh.2 t fun hw=>ht ?_) w' hh.1)
   exact (jY x []).2 (.inr hw)
 | .cond x c d,an,Q,ρ,w,a,hr,hf,h=>by
  simp only [xh,bN] at hf
  simp only [vc] at h
  have he:=hr.eval hf.1.1
  unfold CondV at h
  split at h
  ·rename_i t ht
   rw [ht] at he
   refine wp_cond he ?_
   split at h
   ·rename_i e; rw [ai e]; exact gT hm c _ _ ρ w a hr hf.1.2 h
   ·rename_i e; rw [af e]; exact gT hm d _ _ ρ w a hr hf.2 h
  ·exact h.elim
 | .block id c,an,Q,ρ,w,a,hr,hf,h=>by
  simp only [xh] at hf
  simp only [vc] at h
  refine wp_block (wp_mono (gT hm c _ _ ρ w a hr hf h) fun e a' w'=>?_)
  rintro ⟨ρ',hr',hh⟩
  cases e with
  | exit id'=>
   simp only [KA] at hh
   simp only [Exit.inBlock]
   by_cases e:id'=id
   ·have:Nat.beq id' id=true:=by simpa using e
    rw [this] at hh
    rw [ai e]; exact ⟨ρ',hr',hh⟩
   ·have:Nat.beq id' id=false:=by simpa [<- Bool.not_eq_true] using e
    rw [this] at hh
    rw [af e]; exact ⟨ρ',hr',hh⟩
  | _=>exact ⟨ρ',hr',hh⟩
 | .loop c,an,Q,ρ,w,a,hr,hf,h=>by
  simp only [xh] at hf
  simp only [vc] at h
  obtain ⟨I,μ,h1,h2⟩:=h
  refine wp_loop (fun a' w'=>∃ ρ',Rel n ρ' a'/\Agr (Wc c) ρ ρ'/\ap an.live I ρ' w') (fun a' w'=>ap an.live μ (EO a') w')
   ⟨ρ,hr,Agr.refl _ _,h1⟩ ?_
  rintro a' w' ⟨ρ',hr',ha',hI⟩
  have h2':=ew _ _ _ h2 ρ' (fun t ht=>ha' t fun hw=>ht ((jY c []).2 (.inr hw))) w' hI
  have h3:=iK c _ _ (yc (fun ρ'' w''=>(ap an.live I ρ'' w''/\ap an.live μ ρ'' w''<ap an.live μ ρ' w')/\Agr (Wc c) ρ' ρ'') Q) ρ' w' h2'
   fun e ρ'' w'' ha=>iP (fun hh=>⟨hh,ha⟩) (fun _=>id) e
  refine wp_mono (gT hm c _ _ ρ' w' a' hr' hf h3) fun e a'' w''=>?_
  refine wO (fun ρ'' hr'' hh=>⟨⟨ρ'',hr'',ha'.trans hh.2,hh.1.1⟩,?_⟩) (fun e' ρ'' hr'' hh=>⟨ρ'',hr'',hh⟩) e
  rw [<- hr''.env,<- hr'.env]
  exact hh.1.2
 | .scope ..,_,_,_,_,_,_,_,h|.label ..,_,_,_,_,_,_,_,h|.goto ..,_,_,_,_,_,_,_,h|.refuse ..,_,_,_,_,_,_,_,h
 | .rangeFunc ..,_,_,_,_,_,_,_,h=>h.elim
end sound

def aK (P:Program) (T:TypeId) (p:Value) (w:World) (K:Value->Prop):Prop:=
 ∃ v,(do loadVar T (<- asAddr p):Sem Value).run P w=.ok v w/\K v
def PV (P:Program):List ResultVar->Env->World->(List Value->Prop)->Prop
 | [],_,_,K=>K []
 | .tmp t::rs,ρ,w,K=>PV P rs ρ w fun vs=>K (ρ t::vs)
 | .cell t T::rs,ρ,w,K=>aK P T (ρ t) w fun v=>PV P rs ρ w fun vs=>K (v::vs)
def Qu:List Value->Value
 | [v]=>v
 | vs=>.tuple vs.toArray
def Tl (P:Program) (rs:List ResultVar) (ρ:Env) (w:World) (R:Ending->World->Prop):Prop:=
 PV P rs ρ w fun vs=>R (.returned (Qu vs)) w
def HN (P:Program) (rs:List ResultVar) (R:Ending->World->Prop):Exit->Env->World->Prop
 | .normal,ρ,w|.ret,ρ,w=>Tl P rs ρ w R
 | _,_,_=>False

def QJ (tmps:Array Value):ResultVar->Sem Value
 | .tmp t=>pure (tmps.getD t undef)
 | .cell t T=>do loadVar T (<- asAddr (tmps.getD t undef))
theorem La (fn:Func) (tmps:Array Value):results fn tmps=(do
  let vs <- fn.results.mapM (QJ tmps)
  pure (if h:vs.size=1 then vs[0] else .tuple vs)):=by
 unfold results
 congr 2
theorem As {P:Program} {a:Act} {w:World}:∀ (rs:List ResultVar) (K:List Value->Prop),PV P rs (EO a) w K->
  ∃ vs,(rs.mapM (QJ a.tmps)).run P w=.ok vs w/\vs.length=rs.length/\K vs
 | [],K,h=>⟨[],by simp,rfl,h⟩
 | .tmp t::rs,K,h=>by
  obtain ⟨vs,h1,h2,h3⟩:=As rs _ h
  refine ⟨_::vs,?_,by simp [h2],h3⟩
  rw [List.mapM_cons]
  simp only [Sem.run_bind,QJ,Sem.run_pure,Result.andThen_ok,h1]
  rfl
 | .cell t T::rs,K,h=>by
  obtain ⟨v,h0,h⟩:=h
  obtain ⟨vs,h1,h2,h3⟩:=As rs _ h
  refine ⟨v::vs,?_,by simp [h2],h3⟩
  rw [List.mapM_cons]
  have h0':(QJ a.tmps (.cell t T)).run P w=.ok v w:=h0
  simp only [Sem.run_bind,h0',Result.andThen_ok,h1,Sem.run_pure]

theorem xW {P:Program} {fn:Func} {a:Act} {w:World} {R:Ending->World->Prop}
  (h:Tl P fn.results.toList (EO a) w R):∃ v,(results fn a.tmps).run P w=.ok v w/\R (.returned v) w:=by
 obtain ⟨vs,h1,h2,h3⟩:=As fn.results.toList _ h
 refine ⟨_,?_,h3⟩
 rw [La,Array.mapM_eq_mapM_toList]
 simp only [Sem.run_bind,Sem.run_map,h1,Result.andThen_ok,Sem.run_pure]
 congr 1
 match vs with
 | []=>simp [Qu]
 | [v]=>simp [Qu]
 | v::u::r=>simp [Qu]

def mJ:Nat->List Value->Env->Env
 | _,[],ρ=>ρ
 | k,v::vs,ρ=>mJ (k+1) vs (upd ρ k v)
theorem AC:∀ (l:List Value) (k:Nat) (ρ:Env) (t:Nat),mJ k l ρ t=if k<=t/\t<k+l.length then (l[t - k]?).getD undef else ρ t
 | [],k,ρ,t=>by simp [mJ]; intro h1 h2; omega
 | v::vs,k,ρ,t=>by
  rw [mJ,AC vs (k+1) _ t]
  by_cases h:t=k
  ·subst h
   rw [af (by omega),ai (by simp),BS]
   simp
  ·rw [qA _ _ h]
   by_cases h1:k+1<=t/\t<k+1+vs.length
   ·rw [ai h1,ai (by simp; omega)]
    rw [show t - k=(t - (k+1))+1 by omega,lx]
   ·rw [af h1,af (by simp; omega)]

theorem Id {P:Program} {f:FuncId} {fn:Func} {c:Code} {n:Nat} (an:An) {args:List Value} {w:World} {R:Ending->World->Prop}
  (hm:P.follows .mixedOrders=true) (hf:P.funcs[f]?=some fn) (hb:fn.body=some c) (hn:fn.ntmps=n) (hl:Nat.ble args.length n=true)
  (hfit:xh n c=true) (h:vc P c an (HN P fn.results.toList R) (mJ 0 args fun _=>undef) w):Calls P f args.toArray w R:=by
 have hl':args.length<=n:=jS hl
 refine calls_of_wp hf hb ?_
 have hr:Rel n (mJ 0 args fun _=>undef) { tmps:=args.toArray++Array.replicate (fn.ntmps - args.toArray.size) undef,defers:=[] }:=by
  refine ⟨by simp; omega,fun t ht=>?_,fun t ht=>?_,rfl⟩
  ·rw [AC]
   by_cases h1:t<args.length
   ·rw [ai (by omega)]
    simp [Array.getElem?_append,h1]
   ·rw [af (by omega)]
    rw [Array.getElem?_append_right (by simp; omega),Array.getElem?_replicate,ai (by simp; omega)]
  ·rw [AC,af (by omega)]
 refine wp_mono (gT hm c an _ _ w _ hr hfit h) fun e a' w'=>?_
 rintro ⟨ρ',hr',hh⟩
 rw [hr'.env] at hh
 cases e with
 | normal=>
  obtain ⟨v,h1,h2⟩:=xW hh
  exact ⟨hr'.defers,v,h1,h2⟩
 | ret=>
  obtain ⟨v,h1,h2⟩:=xW hh
  exact ⟨hr'.defers,v,h1,h2⟩
 | _=>exact hh.elim

def lI (fn:Func):Code:=fn.body.getD .skip
def ready (fn:Func) (k:Nat):Bool:=fn.body.isSome && Nat.ble k fn.ntmps && xh fn.ntmps (lI fn)
theorem mw {P:Program} {f:FuncId} {fn:Func} (an:An) (args:List Value) {w:World} {R:Ending->World->Prop} {p:Prop}
  (hm:P.follows .mixedOrders=true) (hf:P.funcs[f]?=some fn) (hr:ready fn args.length=true)
  (h:p=vc P (lI fn) an (HN P fn.results.toList R) (mJ 0 args fun _=>undef) w) (hp:p):Calls P f args.toArray w R:=by
 simp only [ready,bN] at hr
 obtain ⟨⟨h1,h2⟩,h3⟩:=hr
 refine Id an hm hf (c:=lI fn) ?_ rfl h2 h3 (h ▸ hp)
 unfold lI
 cases hb:fn.body with
 | none=>rw [hb] at h1; cases h1
 | some c=>rfl
end
section
open Go Go.RowKit

abbrev ad:=Nat->Option Obj
def Sle (S S':ad):Prop:=∀ b o,S b=some o->S' b=some o
theorem Sle.refl (S:ad):Sle S S:=fun _ _ h=>h
theorem Sle.trans {S S' S'':ad} (h:Sle S S') (h':Sle S' S''):Sle S S'':=fun b o hb=>h' b o (h b o hb)

inductive Item where
 | blk (b:Nat) (o:Obj)
 | row (v:Value) (e:TypeId) (size n:Nat) (xs:List Value)
def Item.foot:Item->List Nat
 | .blk b _=>[b]
 | .row v ..=>v.ownBlock.toList
def Item.holds (w:World):Item->Prop
 | .blk b o=>w.heap[b]?=some o
 | .row v e size n xs=>w.ownsRow 0 e size v n xs
def bu (L:List Item):List Nat:=L.flatMap Item.foot

theorem Item.lt {w:World}:∀ {it:Item},it.holds w->∀ b∈it.foot,b<w.heap.size
 | .blk b o,h,c,hc=>by
  simp only [Item.foot,bY] at hc
  subst hc
  exact (Qz.1 h).1
 | .row v e size n xs,h,c,hc=>by
  simp only [Item.foot,Option.mem_toList] at hc
  exact (World.ownsRow.lt h c hc).2
theorem Item.kept {w w':World}:∀ {it:Item},it.holds w->w.heap.size<=w'.heap.size->w'.os=w.os->w'.tape=w.tape->w'.output=w.output->
  (∀ b∈it.foot,w'.heap[b]?=w.heap[b]?)->it.holds w'
 | .blk b o,h,_,_,_,_,hk=>(hk b (by simp [Item.foot])).trans h
 | .row v e size n xs,h,_,_,_,_,hk=>by
  refine ⟨h.1,?_⟩
  rcases h.2 with hn|⟨g,cap,cur,rfl,hb,hgg,rest⟩
  ·exact .inl hn
  ·exact .inr ⟨g,cap,cur,rfl,hb,(hk g (by simp [Item.foot,Value.ownBlock])).trans hgg,rest⟩

structure Inv (w0:World) (X:List Nat) (L:List Item) (S:ad) (w:World):Prop where
 size:w0.heap.size<=w.heap.size
 os:w.os=w0.os
 tape:w.tape=w0.tape
 output:w.output=w0.output
 old:∀ b,b<w0.heap.size->b ∉ X->w.heap[b]?=w0.heap[b]?
 its:∀ it∈L,it.holds w
 nd:(bu L).Nodup
 new:∀ b∈bu L,b∈X ∨ w0.heap.size<=b
 pub:∀ b o,S b=some o->w.heap[b]?=some o/\b ∉ bu L

theorem mV {L:List Item} {b:Nat}:b∈bu L↔∃ it∈L,b∈it.foot:=by simp [bu,List.mem_flatMap]
theorem bD (L M:List Item):bu (L++M)=bu L++bu M:=by simp [bu]
theorem Inv.lt {w0 w:World} {X:List Nat} {L:List Item} {S:ad} (h:Inv w0 X L S w) {b:Nat} (hb:b∈bu L):b<w.heap.size:=by
 obtain ⟨it,hm,hb⟩:=mV.1 hb
 exact Item.lt (h.its it hm) b hb
theorem Inv.publt {w0 w:World} {X:List Nat} {L:List Item} {S:ad} (h:Inv w0 X L S w) {b:Nat} {o:Obj} (hb:S b=some o):b<w.heap.size:=
 (Qz.1 (h.pub b o hb).1).1

theorem Inv.start {w:World} {L:List Item} {S:ad} (hi:∀ it∈L,it.holds w) (hn:(bu L).Nodup) (hp:∀ b o,S b=some o->w.heap[b]?=some o/\b ∉ bu L) :
  Inv w (bu L) L S w:=
 ⟨aM _,rfl,rfl,rfl,fun _ _ _=>rfl,hi,hn,fun _ h=>.inl h,hp⟩
theorem Inv.begin {w0 w:World} {X:List Nat} {L:List Item} {S:ad} (h:Inv w0 X L S w):Inv w (bu L) L S w:=Inv.start h.its h.nd h.pub

theorem PM {L M:List Item} (hs:List.Sublist M L):List.Sublist (bu M) (bu L):=by
 induction hs with
 | slnil=>exact List.Sublist.refl _
 | cons a _ ih=>simp only [bu,zc] at *; exact ih.trans (dz _ _)
 | cons_cons a _ ih=>simp only [bu,zc] at *; exact List.Sublist.append_left ih _
theorem M0 {L M:List Item} (hs:List.Sublist M L) (h:(bu L).Nodup):(bu M).Nodup:=List.Nodup.sublist (PM hs) h
theorem Inv.sub {w0 w:World} {X:List Nat} {L M:List Item} {S:ad} (h:Inv w0 X L S w) (hs:List.Sublist M L):Inv w0 X M S w:=
 have hm:∀ b,b∈bu M->b∈bu L:=fun b hb=>by
  obtain ⟨it,h1,h2⟩:=mV.1 hb
  exact mV.2 ⟨it,hs.subset h1,h2⟩
 ⟨h.size,h.os,h.tape,h.output,h.old,fun it hi=>h.its it (hs.subset hi),M0 hs h.nd,fun b hb=>h.new b (hm b hb),
  fun b o hb=>⟨(h.pub b o hb).1,fun hb'=>(h.pub b o hb).2 (hm b hb')⟩⟩
theorem Inv.nil {w0 w:World} {X:List Nat} {L:List Item} {S:ad} (h:Inv w0 X L S w):Inv w0 X [] S w:=h.sub (List.nil_sublist _)
def uJ:List Bool->List Item->List Item
 | true::bs,x::xs=>x::uJ bs xs
 | false::bs,_::xs=>uJ bs xs
 | _,_=>[]
theorem xr:∀ (bs:List Bool) (L:List Item),List.Sublist (uJ bs L) L
 | true::bs,x::xs=>by simp only [uJ]; exact (xr bs xs).cons_cons x
 | false::bs,x::xs=>by simp only [uJ]; exact (xr bs xs).cons x
 | [],L=>by simp [uJ]
 | true::_,[]=>by simp [uJ]
 | false::_,[]=>by simp [uJ]
theorem Inv.pick {w0 w:World} {X:List Nat} {L:List Item} {S:ad} (h:Inv w0 X L S w) (bs:List Bool):Inv w0 X (uJ bs L) S w:=h.sub (xr bs L)
theorem Inv.less {w0 w:World} {X:List Nat} {L:List Item} {S S':ad} (h:Inv w0 X L S w) (hs:Sle S' S):Inv w0 X L S' w:=
 { h with pub:=fun b o hb=>h.pub b o (hs b o hb) }
theorem Inv.perm {w0 w:World} {X:List Nat} {L M:List Item} {S:ad} (h:Inv w0 X L S w) (hp:List.Perm M L):Inv w0 X M S w:=by
 have hf:List.Perm (bu M) (bu L):=hp.flatMap_right _
 exact ⟨h.size,h.os,h.tape,h.output,h.old,fun it hi=>h.its it (hp.mem_iff.1 hi),hf.symm.nodup h.nd,fun b hb=>h.new b (hf.mem_iff.1 hb),
  fun b o hb=>⟨(h.pub b o hb).1,fun hb'=>(h.pub b o hb).2 (hf.mem_iff.1 hb')⟩⟩

theorem Inv.step {w0 w w':World} {X:List Nat} {A B:List Item} {S S':ad} (h:Inv w0 X (A++B) S w) {B':List Item} (hc:Inv w (bu B) B' S' w')
  (hx:∀ b o,S' b=some o->S b=some o ∨ b∈bu B ∨ w.heap.size<=b):Inv w0 X (A++B') S' w':=by
 have hnd:=h.nd
 rw [bD,nR] at hnd
 obtain ⟨nA,nB,dAB⟩:=hnd
 have keptA:∀ b∈bu A,w'.heap[b]?=w.heap[b]?:=fun b hb=>
  hc.old b (h.lt (by rw [bD]; exact eM _ hb)) fun hb'=>dAB b hb b hb' rfl
 refine ⟨il h.size hc.size,hc.os.trans h.os,hc.tape.trans h.tape,hc.output.trans h.output,fun b hb hbX=>?_,fun it hi=>?_,?_,fun b hb=>?_,fun b o hb=>?_⟩
 ·have hnB:b ∉ bu B:=fun hb'=>by
   rcases h.new b (by rw [bD]; exact kw _ hb') with h1|h1
   ·exact hbX h1
   ·omega
  rw [hc.old b (Nat.lt_of_lt_of_le hb h.size) hnB]
  exact h.old b hb hbX
 ·rcases cd.1 hi with hi|hi
  ·exact Item.kept (h.its it (eM _ hi)) hc.size hc.os hc.tape hc.output fun b hb=>keptA b (mV.2 ⟨it,hi,hb⟩)
  ·exact hc.its it hi
 ·rw [bD,nR]
  refine ⟨nA,hc.nd,fun a ha b hb e=>?_⟩
  subst e
  have hlt:=h.lt (b:=a) (by rw [bD]; exact eM _ ha)
  rcases hc.new a hb with h1|h1
  ·exact dAB a ha a h1 rfl
  ·omega
 ·rw [bD] at hb
  rcases cd.1 hb with hb|hb
  ·exact h.new b (by rw [bD]; exact eM _ hb)
  ·rcases hc.new b hb with h1|h1
   ·exact h.new b (by rw [bD]; exact kw _ h1)
   ·exact .inr (il h.size h1)
 ·refine ⟨(hc.pub b o hb).1,fun hm=>?_⟩
  rw [bD] at hm
  rcases cd.1 hm with hm|hm
  ·rcases hx b o hb with h1|h1|h1
   ·exact (h.pub b o h1).2 (by rw [bD]; exact eM _ hm)
   ·exact dAB b hm b h1 rfl
   ·have:=h.lt (b:=b) (by rw [bD]; exact eM _ hm)
    omega
  ·exact (hc.pub b o hb).2 hm

structure Grow (w w':World):Prop where
 size:w.heap.size<=w'.heap.size
 os:w'.os=w.os
 tape:w'.tape=w.tape
 output:w'.output=w.output
 old:∀ b,b<w.heap.size->w'.heap[b]?=w.heap[b]?
theorem Grow.refl (w:World):Grow w w:=⟨aM _,rfl,rfl,rfl,fun _ _=>rfl⟩
theorem Inv.grow {w0 w w':World} {X:List Nat} {L:List Item} {S:ad} (h:Inv w0 X L S w) (hg:Grow w w'):Inv w0 X L S w':=by
 have:Inv w (bu []) [] S w':=⟨hg.size,hg.os,hg.tape,hg.output,fun b hb _=>hg.old b hb,by simp,by simp [bu],by simp [bu],
  fun b o hb=>⟨(hg.old b (h.publt hb)).trans (h.pub b o hb).1,by simp [bu]⟩⟩
 have h2:=Inv.step (A:=L) (B:=[]) (by simpa using h) this (fun b o hb=>.inl hb)
 simpa using h2
theorem Inv.addItem {w0 w w':World} {X:List Nat} {L:List Item} {S:ad} (h:Inv w0 X L S w) (hg:Grow w w') {it:Item} (hi:it.holds w')
  (hf:∀ b∈it.foot,w.heap.size<=b) (hn:it.foot.Nodup):Inv w0 X (L++[it]) S w':=by
 have hfe:bu [it]=it.foot:=by simp [bu]
 have:Inv w (bu []) [it] S w':=⟨hg.size,hg.os,hg.tape,hg.output,fun b hb _=>hg.old b hb,by simpa using hi,by rw [hfe]; exact hn,
  fun b hb=>.inr (hf b (by rwa [hfe] at hb)),fun b o hb=>⟨(hg.old b (h.publt hb)).trans (h.pub b o hb).1,fun hm=>by
   have:=h.publt hb
   have:=hf b (by rwa [hfe] at hm)
   omega⟩⟩
 exact Inv.step (A:=L) (B:=[]) (by simpa using h) this (fun b o hb=>.inl hb)
theorem Inv.alloc {w0 w:World} {X:List Nat} {L:List Item} {S:ad} (h:Inv w0 X L S w) (o:Obj) :
  Inv w0 X (L++[.blk w.heap.size o]) S { w with heap:=w.heap.push o }:=
 h.addItem (w':={ w with heap:=w.heap.push o }) (it:=.blk w.heap.size o) ⟨by simp,rfl,rfl,rfl,fun b hb=>by simp [Array.getElem?_push,Nat.ne_of_lt hb]⟩ (by simp [Item.holds]) (by simp [Item.foot]) (by simp [Item.foot])
theorem Inv.draw {w0 w:World} {X:List Nat} {L:List Item} {S:ad} (h:Inv w0 X L S w):Inv w0 X L S { w with drawn:=w.drawn+1 }:=
 h.grow ⟨aM _,rfl,rfl,rfl,fun _ _=>rfl⟩

theorem rl {L:List Item} {i:Nat} {it:Item} (hi:L[i]?=some it) (it':Item) :
  L=L.take i++it::L.drop (i+1)/\L.set i it'=L.take i++it'::L.drop (i+1):=by
 have hlt:i<L.length:=(fu.1 hi).1
 have he:L[i]=it:=(fu.1 hi).2
 constructor
 ·conv=>lhs; rw [<- Hd i L,di hlt,he]
 ·rw [AH,ai hlt]
theorem Inv.stepAt {w0 w w':World} {X:List Nat} {L:List Item} {S S':ad} (h:Inv w0 X L S w) {i:Nat} {it it':Item} (hi:L[i]?=some it)
  {B:List Item} (hc:Inv w (bu [it]) (it'::B) S' w')
  (hx:∀ b o,S' b=some o->S b=some o ∨ b∈bu [it] ∨ w.heap.size<=b):Inv w0 X (L.set i it'++B) S' w':=by
 obtain ⟨h1,h2⟩:=rl hi it'
 have p1:List.Perm ((L.take i++L.drop (i+1))++[it]) L:=by
  conv=>rhs; rw [h1]
  rw [eI]
  exact uI _ co
 have p2:List.Perm (L.set i it'++B) ((L.take i++L.drop (i+1))++(it'::B)):=by
  rw [h2,eI,eI]
  refine uI _ ?_
  rw [gt]
  exact zal110.symm
 exact (Inv.step (h.perm p1) hc hx).perm p2
theorem Inv.change {w0 w w':World} {X:List Nat} {L:List Item} {S:ad} (h:Inv w0 X L S w) {i:Nat} {it it':Item} (hi:L[i]?=some it)
  (hsz:w.heap.size<=w'.heap.size) (hos:w'.os=w.os) (htp:w'.tape=w.tape) (hou:w'.output=w.output)
  (hold:∀ b,b<w.heap.size->b ∉ it.foot->w'.heap[b]?=w.heap[b]?) (hh:it'.holds w') (hf:∀ b∈it'.foot,b∈it.foot ∨ w.heap.size<=b) (hn:it'.foot.Nodup) :
  Inv w0 X (L.set i it') S w':=by
 have e1:bu [it]=it.foot:=by simp [bu]
 have e2:bu [it']=it'.foot:=by simp [bu]
 have hm:it∈L:=du hi
 have hnot:∀ b o,S b=some o->b ∉ it.foot:=fun b o hb hb'=>(h.pub b o hb).2 (mV.2 ⟨it,hm,hb'⟩)
 have hc:Inv w (bu [it]) [it'] S w':=by
  refine ⟨hsz,hos,htp,hou,fun b hb hb'=>hold b hb (by rwa [e1] at hb'),by simpa using hh,by rw [e2]; exact hn,fun b hb=>?_,fun b o hb=>⟨?_,fun hb'=>?_⟩⟩
  ·rw [e2] at hb; rw [e1]; exact hf b hb
  ·exact (hold b (h.publt hb) (hnot b o hb)).trans (h.pub b o hb).1
  ·rw [e2] at hb'
   have:=h.publt hb
   rcases hf b hb' with h1|h1
   ·exact hnot b o hb h1
   ·omega
 have:=h.stepAt hi (B:=[]) hc fun b o hb=>.inl hb
 simpa using this
theorem Inv.setBlk {w0 w:World} {X:List Nat} {L:List Item} {S:ad} (h:Inv w0 X L S w) {i b:Nat} {o:Obj} (hi:L[i]?=some (.blk b o)) (o':Obj) {w':World}
  (hw:w'={ w with heap:=w.heap.setIfInBounds b o' }):Inv w0 X (L.set i (.blk b o')) S w':=by
 have hm:=h.its _ (du hi)
 have hlt:b<w.heap.size:=Item.lt hm b (by simp [Item.foot])
 subst hw
 refine h.change hi (by simp) rfl rfl rfl (fun c _ hc'=>?_) ?_ (fun c hc=>.inl hc) (by simp [Item.foot])
 ·simp only [Item.foot,bY] at hc'
  simp only []
  rw [QU (fun e=>hc' e.symm)]
 ·simp [Item.holds,hlt]

def mE (S:ad) (b:Nat) (o:Obj):ad:=fun c=>if c=b then some o else S c
theorem Inv.publish {w0 w:World} {X:List Nat} {L:List Item} {S:ad} (h:Inv w0 X L S w) {i b:Nat} {o:Obj} (hi:L[i]?=some (.blk b o)) :
  Inv w0 X (L.eraseIdx i) (mE S b o) w/\Sle S (mE S b o):=by
 have hm:=h.its _ (du hi)
 have hsub:List.Sublist (L.eraseIdx i) L:=List.eraseIdx_sublist ..
 have h':=h.sub hsub
 have hnb:b ∉ bu (L.eraseIdx i):=by
  obtain ⟨h1,_⟩:=rl hi (.blk b o)
  have hnd:=h.nd
  have hlt:i<L.length:=(fu.1 hi).1
  have p:List.Perm L (Item.blk b o::L.eraseIdx i):=by
   rw [OZ]
   conv=>lhs; rw [h1]
   exact zal110
  have:(bu (Item.blk b o::L.eraseIdx i)).Nodup:=(p.flatMap_right Item.foot).nodup hnd
  simp only [bu,zc,Item.foot,gt,sv,GK] at this
  exact this.1
 refine ⟨⟨h'.size,h'.os,h'.tape,h'.output,h'.old,h'.its,h'.nd,h'.new,fun c o' hc=>?_⟩,fun c o' hc=>?_⟩
 ·simp only [mE] at hc
  split at hc
  ·rename_i e; subst e
   simp only [aT] at hc
   subst hc
   exact ⟨hm,hnb⟩
  ·exact h'.pub c o' hc
 ·simp only [mE]
  split
  ·rename_i e; subst e
   exact absurd (mV.2 ⟨_,du hi,by simp [Item.foot]⟩) (h.pub _ _ hc).2
  ·exact hc

def Ext (n:Nat) (Y:List Nat) (S S':ad):Prop:=Sle S S'/\∀ b o,S' b=some o->S b=some o ∨ b∈Y ∨ n<=b
theorem Ext.refl (n:Nat) (Y:List Nat) (S:ad):Ext n Y S S:=⟨Sle.refl S,fun _ _ h=>.inl h⟩
def Tri (P:Program) (f:FuncId) (args:List Value) (I:List Item) (S:ad) (Post:Value->List Item->ad->Prop):Prop:=
 ∀ w:World,Inv w (bu I) I S w->Calls P f args.toArray w fun e w'=>∃ v I' S',e=.returned v/\Inv w (bu I) I' S' w'/\Ext w.heap.size (bu I) S S'/\Post v I' S'
def Pure (P:Program) (f:FuncId) (args:List Value) (S:ad) (r:Value):Prop:=
 ∀ w:World,Inv w [] [] S w->Calls P f args.toArray w fun e w'=>e=.returned r/\Inv w [] [] S w'

theorem Run.callP {P:Program} {f:FuncId} {fn:Func} {args:List Value} {w:World} {K:Value->World->Prop} (hf:P.funcs[f]?=some fn) (hn:(fn.name == "runtime.NumGoroutine" || fn.body.isNone)=false)
  (h:Calls P f args.toArray w fun
   | .returned v,w'=>K v w'
   | _,_=>False):Run P (er (.func (.func f) #[] #[]) args) w K:=by
 simp only [Mq] at hn
 have h1:¬ fn.name = "runtime.NumGoroutine" := by simpa using hn.1
 have h2:¬ fn.body=none:=fun e=>by rw [e] at hn; simp at hn
 have e:(er (.func (.func f) #[] #[]) args).run P w=.ok (.enter f args.toArray) w:=by
  simp [er,Deferred.ofValue,invoke,callFunc,hf,h1,h2]
 unfold Run
 rw [e]
 exact h

theorem Run.call {P:Program} {f:FuncId} {fn:Func} {args:List Value} {w w0:World} {X:List Nat} {A I:List Item} {S:ad} {Post:Value->List Item->ad->Prop} {K:Value->World->Prop}
  (hf:P.funcs[f]?=some fn) (hn:(fn.name == "runtime.NumGoroutine" || fn.body.isNone)=false) (h:Inv w0 X (A++I) S w) (hc:Tri P f args I S Post)
  (hk:∀ v I' S' w',Post v I' S'->Sle S S'->Inv w0 X (A++I') S' w'->K v w'):Run P (er (.func (.func f) #[] #[]) args) w K:=by
 refine Run.callP hf hn ((hc w (h.sub (dz A I)).begin).mono ?_)
 rintro e w' ⟨v,I',S',rfl,hI,hE,hP⟩
 exact hk v I' S' w' hP hE.1 (Inv.step h hI hE.2)
theorem Run.callPure {P:Program} {f:FuncId} {fn:Func} {args:List Value} {w w0:World} {X:List Nat} {L:List Item} {S:ad} {r:Value} {K:Value->World->Prop}
  (hf:P.funcs[f]?=some fn) (hn:(fn.name == "runtime.NumGoroutine" || fn.body.isNone)=false) (h:Inv w0 X L S w) (hc:Pure P f args S r)
  (hk:∀ w',Inv w0 X L S w'->K r w'):Run P (er (.func (.func f) #[] #[]) args) w K:=by
 refine Run.callP hf hn ((hc w h.nil.begin).mono ?_)
 rintro e w' ⟨rfl,hI⟩
 have h2:=Inv.step (A:=L) (B:=[]) (by simpa using h) hI fun b o hb=>.inl hb
 exact hk w' (by simpa using h2)
theorem Pure.less {P:Program} {f:FuncId} {args:List Value} {S S':ad} {r:Value} (h:Pure P f args S r) (hs:Sle S S'):Pure P f args S' r:=by
 intro w hI
 refine (h w (hI.less hs)).mono ?_
 rintro e w' ⟨he,h2⟩
 refine ⟨he,h2.size,h2.os,h2.tape,h2.output,h2.old,by simp,by simp [bu],by simp [bu],fun b o hb=>⟨?_,by simp [bu]⟩⟩
 rw [h2.old b (hI.publt hb) (by simp)]
 exact (hI.pub b o hb).1
end
section
open Go Go.RowKit

theorem Run.of {P:Program} {s:Sem Next} {w w':World} {v:Value} {K:Value->World->Prop} (h:s.run P w=.ok (.value v) w') (hk:K v w'):Run P s w K:=by
 unfold Run; rw [h]; exact hk
theorem Run.ofSkip {P:Program} {s:Sem Next} {w w':World} {K:Value->World->Prop} (h:s.run P w=.ok .skip w') (hk:K undef w'):Run P s w K:=by
 unfold Run; rw [h]; exact hk

def pL (P:Program) (T:TypeId):Option Nat:=match P.underlying T with
 | some (.struct _)|some (.array _ _)=>(P.info? T).map (·.size)
 | _=>none
def iq (P:Program) (T:TypeId):Bool:=match P.underlying T with
 | some (.struct _)|some (.array _ _)=>false
 | some _=>match P.info? T with
  | some i=>Nat.beq i.size 1
  | none=>false
 | none=>false
def bz (P:Program) (T:TypeId) (f:Nat):Option Nat:=match P.underlying T with
 | some (.struct fs)=>match fs[f]? with
  | some fd=>match P.info? fd.type with
   | some i=>match i.size with
    | 0=>none
    | _+1=>some fd.offset
   | none=>none
  | none=>none
 | _=>none
def cB (P:Program) (T:TypeId):Option (TypeId × Nat):=match P.underlying T with
 | some (.slice e)=>(P.info? e).map fun i=>(e,i.size)
 | _=>none
def gQ (P:Program) (T:TypeId):Option Value:=match P.info? T with
 | some i=>i.zero
 | none=>none

section
variable {P:Program} {w:World}
theorem kq {T:TypeId} {i:TypeInfo} (h:P.info? T=some i):(sizeOf T).run P w=.ok i.size w:=by
 simp [sizeOf,typeInfo,h]
theorem PE {T:TypeId} {z:Value} (h:gQ P T=some z):(zeroValue T).run P w=.ok z w:=by
 unfold gQ at h
 split at h
 ·rename_i i hi; simp [zeroValue,typeInfo,hi,h]
 ·cases h
theorem D1 {T:TypeId} {n:Nat} (h:pL P T=some n):(isAgg T).run P w=.ok true w/\(sizeOf T).run P w=.ok n w:=by
 unfold pL at h
 split at h
 ·rename_i fs hu
  cases hi:P.info? T with
  | none=>rw [hi] at h; cases h
  | some i=>
   rw [hi] at h
   simp only [wz,aT] at h
   subst h
   exact ⟨by simp [isAgg,run_underlying hu],kq hi⟩
 ·rename_i e m hu
  cases hi:P.info? T with
  | none=>rw [hi] at h; cases h
  | some i=>
   rw [hi] at h
   simp only [wz,aT] at h
   subst h
   exact ⟨by simp [isAgg,run_underlying hu],kq hi⟩
 ·cases h
theorem wB {T:TypeId} (h:iq P T=true):(isAgg T).run P w=.ok false w/\(sizeOf T).run P w=.ok 1 w:=by
 unfold iq at h
 cases hu:P.underlying T with
 | none=>rw [hu] at h; cases h
 | some d=>
  rw [hu] at h
  cases hi:P.info? T with
  | none=>rw [hi] at h; cases d <;> cases h
  | some i=>
   rw [hi] at h
   have hs:i.size=1:=by cases d <;> simp at h <;> exact h
   refine ⟨?_,by rw [kq hi,hs]⟩
   cases d <;> simp [isAgg,run_underlying hu] at h ⊢

theorem kL (b o n:Nat):(⟨b,o,none⟩:Addr).add n=⟨b,o+n,none⟩:=by unfold Addr.add; split <;> simp_all

theorem yB {T:TypeId} {n b o:Nat} {cs:List Value} (h:pL P T=some n) (hl:cs.length=n) (hc:∀ j v,cs[j]?=some v->w.cell? ⟨b,o+j,none⟩=some v) :
  (loadVar T ⟨b,o,none⟩).run P w=.ok (.agg cs.toArray) w:=by
 obtain ⟨h1,h2⟩:=D1 (w:=w) h
 have h3:=run_loadCells_list (P:=P) (w:=w) ⟨b,o,none⟩ cs (fun j v hj=>by rw [kL]; exact hc j v hj)
 rw [hl] at h3
 simp [loadVar,h1,h2,h3]
theorem KI {T:TypeId} {b o:Nat} {v:Value} (h:iq P T=true) (hc:w.cell? ⟨b,o,none⟩=some v):(loadVar T ⟨b,o,none⟩).run P w=.ok v w:=by
 simp [loadVar,(wB (w:=w) h).1,hc]
end

section mem
variable {P:Program} {w w0:World} {X:List Nat} {L:List Item} {S:ad} {K:Value->World->Prop}

theorem Inv.cellS (h:Inv w0 X L S w) {b o:Nat} {c:Array Value} {E:TypeId} {fz:Nat × Nat} (hs:S b=some (.cells c E fz)):w.cell? ⟨b,o,none⟩=c[o]?:=by
 simp [World.cell?,(h.pub b _ hs).1]
theorem Inv.cellL (h:Inv w0 X L S w) {i b o:Nat} {c:Array Value} {E:TypeId} {fz:Nat × Nat} (hi:L[i]?=some (.blk b (.cells c E fz))):w.cell? ⟨b,o,none⟩=c[o]?:=by
 have:=h.its _ (du hi)
 simp only [Item.holds] at this
 simp [World.cell?,this]

theorem bp (h:Inv w0 X L S w) {T ty:TypeId} {v:Value} (hk:∀ b w',Inv w0 X (L++[.blk b (.cells v.cells T)]) S w'->K (.pointer (some ⟨b,0,none⟩)) w') :
  Run P (sOp (.box T (.const v)) ty) w K:=by
 refine Run.of (v:=.pointer (some ⟨w.heap.size,0,none⟩)) ?_ (hk _ _ (h.alloc _))
 simp [sOp,execOp,Instr.box,newVar,newRow,newObj,ev0,evE,Sem.run]
theorem aP (h:Inv w0 X L S w) {T ty:TypeId} {z:Value} (hz:gQ P T=some z) (hk:∀ b w',Inv w0 X (L++[.blk b (.cells z.cells T)]) S w'->K (.pointer (some ⟨b,0,none⟩)) w') :
  Run P (sOp (.alloc T) ty) w K:=by
 refine Run.of (v:=.pointer (some ⟨w.heap.size,0,none⟩)) ?_ (hk _ _ (h.alloc _))
 simp [sOp,execOp,Instr.alloc,newVar,newRow,newObj,PE hz,Sem.run]
theorem aC {T ty:TypeId} {f b o k:Nat} (hf:bz P T f=some k) (hk:K (.pointer (some ⟨b,o+k,none⟩)) w) :
  Run P (sOp (.fieldAddr T (.const (.pointer (some ⟨b,o,none⟩))) f) ty) w K:=by
 refine Run.of ?_ hk
 unfold bz at hf
 split at hf <;> try cases hf
 rename_i fs hu
 split at hf <;> try cases hf
 rename_i fd hfd
 split at hf <;> try cases hf
 rename_i i hi
 split at hf <;> try cases hf
 rename_i n hn
 have hne:¬ i.size=0:=by omega
 simp [sOp,execOp,Instr.fieldAt,run_underlying hu,hfd,Instr.sureAddr,ev0,evE,fieldPlace,kq hi,hne,kL]
theorem cA {T ty:TypeId} {b o:Nat} {v:Value} (hT:iq P T=true) (hc:w.cell? ⟨b,o,none⟩=some v) (hk:K v w) :
  Run P (sOp (.load T (.const (.pointer (some ⟨b,o,none⟩)))) ty) w K:=by
 refine Run.of ?_ hk
 simp [sOp,execOp,Instr.loadAt,Instr.sureAddr,ev0,evE,KI hT hc]
theorem cm {T ty:TypeId} {b o n:Nat} {cs:List Value} (hT:pL P T=some n) (hl:cs.length=n) (hc:∀ j v,cs[j]?=some v->w.cell? ⟨b,o+j,none⟩=some v) (hk:K (.agg cs.toArray) w) :
  Run P (sOp (.load T (.const (.pointer (some ⟨b,o,none⟩)))) ty) w K:=by
 refine Run.of ?_ hk
 simp [sOp,execOp,Instr.loadAt,Instr.sureAddr,ev0,evE,yB hT hl hc]
theorem bb (h:Inv w0 X L S w) {T ty:TypeId} (i:Nat) {b o:Nat} {c:Array Value} {E:TypeId} {v:Value} (hT:iq P T=true) (hi:L[i]?=some (.blk b (.cells c E))) (hc:c[o]?=some v) (hk:K v w) :
  Run P (sOp (.load T (.const (.pointer (some ⟨b,o,none⟩)))) ty) w K:=
 cA hT ((h.cellL hi).trans hc) hk
theorem ey (h:Inv w0 X L S w) {T ty:TypeId} (i:Nat) {b o n:Nat} {c:Array Value} {E:TypeId} (cs:List Value) (hT:pL P T=some n) (hi:L[i]?=some (.blk b (.cells c E))) (hl:cs.length=n)
  (hc:∀ j v,cs[j]?=some v->c[o+j]?=some v) (hk:K (.agg cs.toArray) w):Run P (sOp (.load T (.const (.pointer (some ⟨b,o,none⟩)))) ty) w K:=
 cm hT hl (fun j v hj=>(h.cellL hi).trans (hc j v hj)) hk
theorem az (h:Inv w0 X L S w) {T ty:TypeId} (i:Nat) {b n:Nat} {c:Array Value} {E:TypeId} (hT:pL P T=some n) (hi:L[i]?=some (.blk b (.cells c E))) (hl:c.size=n)
  (hk:K (.agg c) w):Run P (sOp (.load T (.const (.pointer (some ⟨b,0,none⟩)))) ty) w K:=by
 refine ey h i (o:=0) c.toList hT hi (by simpa using hl) (fun j v hj=>by simpa using hj) ?_
 simpa using hk
theorem bw (h:Inv w0 X L S w) {T:TypeId} {K:Value->Prop} (i:Nat) {b n:Nat} {c:Array Value} {E:TypeId} (hT:pL P T=some n) (hi:L[i]?=some (.blk b (.cells c E))) (hl:c.size=n)
  (hk:K (.agg c)):aK P T (.pointer (some ⟨b,0,none⟩)) w K:=by
 unfold aK
 refine ⟨_,?_,hk⟩
 have:=yB (w:=w) (P:=P) (b:=b) (o:=0) (cs:=c.toList) hT (by simpa using hl) (fun j v hj=>by
  rw [h.cellL hi]; simpa using hj)
 simpa [asAddr] using this

def bR (c:Array Value) (o:Nat) (vs:List Value):Array Value:=(c.toList.take o++vs++c.toList.drop (o+vs.length)).toArray
theorem MY {w:World} {g:Nat} {c cs:Array Value} {E:TypeId} {fz:Nat × Nat} (hg:w.heap[g]?=some (.cells c E fz)) :
  w.setRow g cs={ w with heap:=w.heap.setIfInBounds g (.cells cs E fz) }:=by
 have hlt:=(Qz.1 hg).1
 have he:=(Qz.1 hg).2
 unfold World.setRow
 congr 1
 apply Array.ext_getElem?
 intro i
 by_cases e:g=i
 ·subst e
  rw [Array.getElem?_modify,ai rfl,hg]
  simp [hlt]
 ·rw [QU e,Array.getElem?_modify,af e]
theorem df (h:Inv w0 X L S w) {T ty:TypeId} (i:Nat) {b o:Nat} {c:Array Value} {E:TypeId} {v:Value} {n:Nat} (hn:v.cells.size=n) (hT:(iq P T && Nat.beq n 1 || pL P T == some n)=true)
  (hi:L[i]?=some (.blk b (.cells c E))) (hfit:o+n<=c.size) (h1:∀ u∈v.cells.toList,u.oneCell'=true)
  (hk:∀ w',Inv w0 X (L.set i (.blk b (.cells (bR c o v.cells.toList) E))) S w'->K undef w') :
  Run P (sOp (.store T (.const (.pointer (some ⟨b,o,none⟩))) (.const v)) ty) w K:=by
 have hg:=h.its _ (du hi)
 simp only [Item.holds] at hg
 have hsz:(sizeOf T).run P w=.ok n w:=by
  simp only [iS,bN,beq_iff_eq] at hT
  rcases hT with ⟨h2,h3⟩|h2
  ·rw [(wB (w:=w) h2).2,Ha h3]
  ·exact (D1 (w:=w) h2).2
 have hst:=run_storeCells_at P b o E v.cells.toList 0 c w hg (by simpa [hn] using hfit) h1
 refine Run.ofSkip (w':=w.setRow b (bR c o v.cells.toList)) ?_ (hk _ (h.setBlk hi _ (MY hg)))
 simp only [CJ] at hst
 simp [sOp,execOp,Instr.storeAt,Instr.sureAddr,ev0,evE,storeVar,hsz,hn,hst,bR]
theorem aD {T ty E:TypeId} {k b o len cap i:Nat} (hT:cB P T=some (E,k)) (hlt:i<len) (hk:K (.pointer (some ⟨b,o+i * k,none⟩)) w) :
  Run P (sOp (.indexAddr T (.const (.slice (some ⟨b,o,none⟩) len cap)) (.const (.int .i64 i))) ty) w K:=by
 refine Run.of ?_ hk
 unfold cB at hT
 split at hT <;> try cases hT
 rename_i e hu
 cases hi:P.info? e with
 | none=>rw [hi] at hT; cases hT
 | some inf=>
  rw [hi] at hT
  simp only [wz,aT,cL] at hT
  obtain ⟨rfl,rfl⟩:=hT
  have h1:(0:Int)<=(i:Int)/\(i:Int)<(len:Int):=⟨by omega,by omega⟩
  simp [sOp,execOp,Instr.indexAt,asIntOf,run_underlying hu,ev0,evE,kq hi,hlt,kL]
end mem

section pure
variable {P:Program} {w:World} {K:Value->World->Prop}
theorem ar {ty:TypeId} {a:Addr} (hk:K (.pointer (some a)) w):Run P (sOp (.nilCheck (.const (.pointer (some a)))) ty) w K:=
 Run.of (by simp [sOp,execOp,ev0,evE]) hk
theorem sK {ty:TypeId} {c:Bool} {a b:Value} (hk:K (if c=true then a else b) w):Run P (sOp (.pick (.const (.bool c)) (.const a) (.const b)) ty) w K:=
 Run.of (by simp [sOp,execOp,ev0,evE,asBool]) hk
theorem ct {T ty:TypeId} {c:Bool} (hk:K (.bool (!c)) w):Run P (sOp (.unOp .not T (.const (.bool c))) ty) w K:=
 Run.of (by simp [sOp,execOp,ev0,evE,Op.unary]) hk
theorem al {ty:TypeId} {vs:Array Value} {i:Nat} {v:Value} (hi:vs[i]?=some v) (hk:K v w):Run P (sOp (.extract (.const (.tuple vs)) i) ty) w K:=
 Run.of (by simp [sOp,execOp,ev0,evE,Instr.extract,hi]) hk
theorem nT {fn:Fn} {a b:List Value} (hk:K (.func fn a.toArray b.toArray) w):Run P (dR fn a b) w K:=
 Run.of (by simp [dR,Instr.makeFunc]) hk
theorem cC (op:BinOp) (T:TypeId) (x y:Operand) (k k':IntKind) (a b:Int):(eqGuard op T x y (.int k a) (.int k' b)).run P w=.ok () w:=by
 unfold eqGuard; simp
theorem qC (op:BinOp) (T:TypeId) (x y:Operand) (a b:ByteArray):(eqGuard op T x y (.string a) (.string b)).run P w=.ok () w:=by
 unfold eqGuard; simp
theorem vQ (op:BinOp) (T:TypeId) (x y:Operand) (a b:Bool):(eqGuard op T x y (.bool a) (.bool b)).run P w=.ok () w:=by
 unfold eqGuard; simp
theorem bn {T:TypeId} {cx cy:Bool} {a b:Int} (hr:-9223372036854775808<=a+b/\a+b<=9223372036854775807) (hk:K (.int .i64 (a+b)) w):Run P (cw .add T cx cy (.int .i64 a) (.int .i64 b)) w K:=
 Run.of (by simp [cw,cC,binOp,Op.intArith,IntWalk.i64_in _ hr]) hk
theorem kY {T:TypeId} {cx cy:Bool} {a b:Int} (hr:-9223372036854775808<=a - b/\a - b<=9223372036854775807) (hk:K (.int .i64 (a - b)) w):Run P (cw .sub T cx cy (.int .i64 a) (.int .i64 b)) w K:=
 Run.of (by simp [cw,cC,binOp,Op.intArith,IntWalk.i64_in _ hr]) hk
theorem bL {T:TypeId} {cx cy:Bool} {k:IntKind} {a b:Int} (hk:K (.bool (decide (a<b))) w):Run P (cw .lss T cx cy (.int k a) (.int k b)) w K:=
 Run.of (by simp [cw,cC,binOp,Op.intCmp]) hk
theorem eL {T:TypeId} {cx cy:Bool} {k:IntKind} {a b:Int} (hk:K (.bool (decide (a<=b))) w):Run P (cw .leq T cx cy (.int k a) (.int k b)) w K:=
 Run.of (by simp [cw,cC,binOp,Op.intCmp]) hk
theorem eU {T:TypeId} {cx cy:Bool} {k:IntKind} {a b:Int} (hk:K (.bool (decide (b<a))) w):Run P (cw .gtr T cx cy (.int k a) (.int k b)) w K:=
 Run.of (by simp [cw,cC,binOp,Op.intCmp]) hk
theorem kX {T:TypeId} {cx cy:Bool} {k:IntKind} {a b:Int} (hk:K (.bool (decide (b<=a))) w):Run P (cw .geq T cx cy (.int k a) (.int k b)) w K:=
 Run.of (by simp [cw,cC,binOp,Op.intCmp]) hk
theorem bl {T:TypeId} {cx cy:Bool} {k:IntKind} {a b:Int} (hk:K (.bool (decide (a=b))) w):Run P (cw .eql T cx cy (.int k a) (.int k b)) w K:=
 Run.of (by simp [cw,cC,binOp,Op.intCmp]; rfl) hk
theorem gV {T:TypeId} {cx cy:Bool} {k:IntKind} {a b:Int} (hk:K (.bool (!decide (a=b))) w):Run P (cw .neq T cx cy (.int k a) (.int k b)) w K:=
 Run.of (by simp [cw,cC,binOp,Op.intCmp]; rfl) hk
theorem HO (a:ByteArray):∀ (n i:Nat) (r:List UInt8),a.size - i=n->ByteArray.toList.loop a i r=r.reverse++a.data.toList.drop i:=by
 intro n
 induction n with
 | zero=>
  intro i r hn
  unfold ByteArray.toList.loop
  have h1:¬ i<a.size:=by omega
  have h2:a.data.toList.length<=i:=by
   have e:a.data.toList.length=a.size:=by rw [KY]; rfl
   omega
  rw [af h1,tM h2,cX]
 | succ n ih=>
  intro i r hn
  unfold ByteArray.toList.loop
  have h1:i<a.size:=by omega
  have h2:i<a.data.toList.length:=by
   have e:a.data.toList.length=a.size:=by rw [KY]; rfl
   omega
  rw [ai h1,ih (i+1) _ (by omega),di h2]
  have h4:i<a.data.size:=by simpa using h2
  have h3:a.get! i=a.data.toList[i]:=by
   show a.data[i]! = _
   rw [getElem!_pos a.data i h4,Array.getElem_toList]
  rw [h3,List.reverse_cons,eI]
  rfl
theorem u9 (a:ByteArray):a.toList=a.data.toList:=by
 unfold ByteArray.toList
 rw [HO a _ 0 [] rfl]
 rfl
theorem vw (a b:ByteArray):(a.toList == b.toList)=decide (a=b):=by
 rw [u9,u9,oS]
 simp only [beq_iff_eq,bC]
 constructor
 ·intro h
  cases a; cases b
  simp only [ByteArray.mk.injEq]
  exact Bk.1 h
 ·rintro rfl; rfl
theorem bt {T:TypeId} {cx cy:Bool} {a b:ByteArray} (hk:K (.bool (decide (a=b))) w):Run P (cw .eql T cx cy (.string a) (.string b)) w K:=
 Run.of (by simp only [cw,binOp,Op.stringOp,Sem.run_bind,qC,Result.andThen_ok,Sem.run_pure,vw]) hk
theorem Pn {T:TypeId} {cx cy:Bool} {a b:ByteArray} (hk:K (.bool (!decide (a=b))) w):Run P (cw .neq T cx cy (.string a) (.string b)) w K:=
 Run.of (by simp only [cw,binOp,Op.stringOp,Sem.run_bind,qC,Result.andThen_ok,Sem.run_pure,vw]) hk
theorem Ou {T:TypeId} {cx cy:Bool} {a b:Bool} (hu:P.underlying T=some .bool) (hk:K (.bool (!(a == b))) w):Run P (cw .neq T cx cy (.bool a) (.bool b)) w K:=
 Run.of (by
  have he:(Op.equal T (.bool a) (.bool b)).run P w=.ok (a == b) w:=by
   rw [Op.equal,Op.maxDepth,Op.equalIn.eq_def]
   simp [run_underlying hu]
  simp only [cw,binOp,Sem.run_bind,vQ,Result.andThen_ok,he,Sem.run_pure]) hk
theorem g8 {T ty:TypeId} {cs:List Bool} {s:ByteArray} (hu:P.underlying T=some .string) (hk:K (.int .i64 s.size) w):Run P (bH .len #[T] ty cs [.string s]) w K:=
 Run.of (by simp [bH,builtin,Builtin.len_,run_underlying hu,goInt]) hk
theorem gL {T ty:TypeId} {cs:List Bool} {a:Option Addr} {n c:Nat} {Ek:TypeId × Nat} (hu:cB P T=some Ek) (hk:K (.int .i64 n) w):Run P (bH .len #[T] ty cs [.slice a n c]) w K:=by
 refine Run.of ?_ hk
 unfold cB at hu
 split at hu <;> try cases hu
 rename_i e h1
 simp [bH,builtin,Builtin.len_,run_underlying h1,goInt]
theorem kz {T ty:TypeId} {s:ByteArray} {i:Nat} (hu:P.underlying T=some .string) (hi:i<s.size) (hk:K (.int .u8 s[i].toNat) w) :
  Run P (sOp (.index T (.const (.string s)) (.const (.int .i64 i))) ty) w K:=by
 refine Run.of ?_ hk
 have h0:(0:Int)<=(i:Int):=by omega
 simp [sOp,execOp,Instr.index,asIntOf,run_underlying hu,ev0,evE,hi]
end pure

theorem aw {c:Bool} {A B:Prop} (ht:c=true->A) (hf:c=false->B):CondV (.bool c) A B:=by
 unfold CondV
 cases c
 ·exact hf rfl
 ·exact ht rfl
theorem aH {p:Prop} [Decidable p] {A B:Prop} (ht:p->A) (hf:¬ p->B):CondV (.bool (decide p)) A B:=
 aw (fun h=>ht (of_decide_eq_true h)) (fun h=>hf (of_decide_eq_false h))
theorem JQ {c b:Bool} {A B:Prop} (ht:c=b->A) (hf:c≠b->B):aq (.bool c) b A B:=by
 unfold aq
 simp only []
 split
 ·rename_i e; exact ht e
 ·rename_i e; exact hf e
end
section
open Go Go.RowKit
attribute [local irreducible] Run CondV aq aK

def inI (n:Int):Prop:=-9223372036854775808<=n/\n<=9223372036854775807

inductive T where
 | mk (kind n:Int) (name:ByteArray) (kids:List T)
namespace T
def kind:T->Int
 | .mk k _ _ _=>k
def n:T->Int
 | .mk _ n _ _=>n
def name:T->ByteArray
 | .mk _ _ s _=>s
def kids:T->List T
 | .mk _ _ _ ks=>ks
theorem ind {p:T->Prop} (h:∀ k n s ks,(∀ t∈ks,p t)->p (.mk k n s ks)) (t:T):p t:=
 T.rec (motive_1:=p) (motive_2:=fun l=>∀ t∈l,p t) (fun k n s ks ih=>h k n s ks ih) (by simp) (fun a l h1 h2 t ht=>by
  rcases cQ.1 ht with rfl|ht
  ·exact h1
  ·exact h2 t ht) t
end T
structure C where
 head:T
 body:List T

def ba (c:Array Value) (o k:Nat):List Value:=(c.toList.drop o).take k
def RdSl {α:Type} (S:ad) (k:Nat) (R:List Value->α->Prop) (v:Value) (xs:List α):Prop:=
 ∃ a cap,v=.slice a xs.length cap/\xs.length<=cap/\cap<=maxLen/\
  (xs=[] ∨ ∃ b o c E fz,a=some ⟨b,o,none⟩/\S b=some (.cells c E fz)/\∀ i (h:i<xs.length),R (ba c (o+i * k) k) xs[i])
inductive RdT (S:ad):List Value->T->Prop
 | nil {k n:Int} {s:ByteArray} {a:Option Addr} {cap:Nat} (hk:inI k) (hn:inI n) (hs:s.size<=maxLen) (hc:cap<=maxLen) :
   RdT S [.int .i64 k,.int .i64 n,.string s,.slice a 0 cap] (.mk k n s [])
 | cons {k n:Int} {s:ByteArray} {kids:List T} {b o cap:Nat} {c:Array Value} {E:TypeId} {fz:Nat × Nat} (hk:inI k) (hn:inI n) (hs:s.size<=maxLen) (hl:kids.length<=cap) (hc:cap<=maxLen)
   (hS:S b=some (.cells c E fz)) (h:∀ i (h:i<kids.length),RdT S (ba c (o+i * 4) 4) kids[i]) :
   RdT S [.int .i64 k,.int .i64 n,.string s,.slice (some ⟨b,o,none⟩) kids.length cap] (.mk k n s kids)
theorem RdT.iff {S:ad} {cs:List Value} {t:T}:RdT S cs t ↔
  ∃ ks,cs=[.int .i64 t.kind,.int .i64 t.n,.string t.name,ks]/\inI t.kind/\inI t.n/\t.name.size<=maxLen/\RdSl S 4 (RdT S) ks t.kids:=by
 constructor
 ·intro h
  cases h with
  | nil hk hn hs hc=>exact ⟨_,rfl,hk,hn,hs,_,_,rfl,aR _,hc,.inl rfl⟩
  | cons hk hn hs hl hc hS h=>exact ⟨_,rfl,hk,hn,hs,_,_,rfl,hl,hc,.inr ⟨_,_,_,_,_,rfl,hS,h⟩⟩
 ·obtain ⟨k,n,s,kids⟩:=t
  rintro ⟨ks,rfl,hk,hn,hs,a,cap,rfl,hl,hc,h⟩
  rcases h with h|⟨b,o,c,E,fz,rfl,hS,h⟩
  ·simp only [T.kids] at h
   subst h
   exact RdT.nil hk hn hs hc
  ·exact RdT.cons hk hn hs hl hc hS h
theorem RdT.length {S:ad} {cs:List Value} {t:T} (h:RdT S cs t):cs.length=4:=by
 obtain ⟨ks,rfl,_⟩:=RdT.iff.1 h; rfl
theorem RdT.mono {S S':ad} (hs:Sle S S') {cs:List Value} {t:T} (h:RdT S cs t):RdT S' cs t:=by
 induction h with
 | nil hk hn hs hc=>exact RdT.nil hk hn hs hc
 | cons hk hn hs' hl hc hS _ ih=>exact RdT.cons hk hn hs' hl hc (hs _ _ hS) ih
theorem RdSl.mono {α:Type} {S S':ad} {k:Nat} {R R':List Value->α->Prop} {v:Value} {xs:List α} (hs:Sle S S') (hR:∀ cs x,R cs x->R' cs x) (h:RdSl S k R v xs):RdSl S' k R' v xs:=by
 obtain ⟨a,cap,rfl,hl,hc,h⟩:=h
 refine ⟨a,cap,rfl,hl,hc,?_⟩
 rcases h with h|⟨b,o,c,E,fz,ha,hS,h⟩
 ·exact .inl h
 ·exact .inr ⟨b,o,c,E,fz,ha,hs _ _ hS,fun i hi=>hR _ _ (h i hi)⟩
theorem RdSl.monoT {S S':ad} {v:Value} {xs:List T} (hs:Sle S S') (h:RdSl S 4 (RdT S) v xs):RdSl S' 4 (RdT S') v xs:=h.mono hs fun _ _=>RdT.mono hs
def RdC (S:ad) (cs:List Value) (c:C):Prop:=∃ hd ks,cs=hd++[ks]/\RdT S hd c.head/\RdSl S 4 (RdT S) ks c.body
theorem RdC.length {S:ad} {cs:List Value} {c:C} (h:RdC S cs c):cs.length=5:=by
 obtain ⟨hd,ks,rfl,h,_⟩:=h; simp [h.length]
theorem RdC.mono {S S':ad} (hs:Sle S S') {cs:List Value} {c:C} (h:RdC S cs c):RdC S' cs c:=by
 obtain ⟨hd,ks,rfl,h1,h2⟩:=h; exact ⟨hd,ks,rfl,h1.mono hs,h2.monoT hs⟩
theorem RdSl.monoC {S S':ad} {v:Value} {xs:List C} (hs:Sle S S') (h:RdSl S 5 (RdC S) v xs):RdSl S' 5 (RdC S') v xs:=h.mono hs fun _ _=>RdC.mono hs

theorem RdSl.at_ {α:Type} {S:ad} {k:Nat} {R:List Value->α->Prop} {v:Value} {xs:List α} (h:RdSl S k R v xs) {i:Nat} (hi:i<xs.length) :
  ∃ b o cap c E fz,v=.slice (some ⟨b,o,none⟩) xs.length cap/\S b=some (.cells c E fz)/\R (ba c (o+i * k) k) xs[i]:=by
 obtain ⟨a,cap,rfl,hl,hc,h⟩:=h
 rcases h with h|⟨b,o,c,E,fz,rfl,hS,h⟩
 ·subst h; simp at hi
 ·exact ⟨b,o,cap,c,E,fz,rfl,hS,h i hi⟩
theorem RdSl.le {α:Type} {S:ad} {k:Nat} {R:List Value->α->Prop} {v:Value} {xs:List α} (h:RdSl S k R v xs):xs.length<=maxLen:=by
 obtain ⟨a,cap,rfl,hl,hc,h⟩:=h; exact il hl hc
theorem aL {c:Array Value} {o k:Nat} {cs:List Value} (e:ba c o k=cs):∀ j v,cs[j]?=some v->c[o+j]?=some v:=by
 intro j v h
 subst e
 rw [ba,tx] at h
 split at h
 ·rw [uD] at h; simpa using h
 ·cases h

section
variable {P:Program} {w w0:World} {X:List Nat} {L:List Item} {S:ad} {K:Value->World->Prop}
theorem aF {α:Type} {T ty:TypeId} {cs:List Bool} {k:Nat} {R:List Value->α->Prop} {v:Value} {xs:List α} {Ek:TypeId × Nat} (h:RdSl S k R v xs) (hu:cB P T=some Ek)
  (hk:K (.int .i64 xs.length) w):Run P (bH .len #[T] ty cs [v]) w K:=by
 obtain ⟨a,cap,rfl,_⟩:=h
 exact gL hu hk
def elP (v:Value) (n:Nat):Value:=match v with
 | .slice (some a) _ _=>.pointer (some ⟨a.block,a.off+n,none⟩)
 | _=>undef
def elQ (v:Value) (n d:Nat):Value:=match v with
 | .slice (some a) _ _=>.pointer (some ⟨a.block,a.off+n+d,none⟩)
 | _=>undef
section
variable {K:Value->Value->World->Prop} {K3:Value->Value->Value->World->Prop}
theorem cj {α:Type} {T U ty ty' E:TypeId} {k:Nat} {R:List Value->α->Prop} {v:Value} {xs:List α} (hI:Inv w0 X L S w) (h:RdSl S k R v xs) (hu:cB P T=some (E,k)) (hU:pL P U=some k)
  {i:Nat} (hi:i<xs.length) (hlen:∀ cs x,R cs x->cs.length=k) (hk:∀ cs,R cs xs[i]->K (elP v (i * k)) (.agg cs.toArray) w) :
  Run P (sOp (.indexAddr T (.const v) (.const (.int .i64 i))) ty) w fun p w'=>Run P (sOp (.load U (.const p)) ty') w' (K p):=by
 obtain ⟨b,o,cap,c,E',fz,rfl,hS,hR⟩:=h.at_ hi
 refine aD hu hi ?_
 refine cm hU (hlen _ _ hR) (fun j v hj=>?_) (hk _ hR)
 rw [hI.cellS hS]
 exact aL rfl j v hj
theorem nQ {α:Type} {T Tf U ty ty' ty'' E:TypeId} {k f d:Nat} {R:List Value->α->Prop} {v u:Value} {xs:List α} (hI:Inv w0 X L S w) (h:RdSl S k R v xs) (hu:cB P T=some (E,k)) (hf:bz P Tf f=some d) (hU:iq P U=true)
  {i:Nat} (hi:i<xs.length) (hc:∀ cs,R cs xs[i]->cs[d]?=some u) (hk:K3 (elP v (i * k)) (elQ v (i * k) d) u w) :
  Run P (sOp (.indexAddr T (.const v) (.const (.int .i64 i))) ty) w fun p w'=>Run P (sOp (.fieldAddr Tf (.const p) f) ty') w' fun q w''=>Run P (sOp (.load U (.const q)) ty'') w'' (K3 p q):=by
 obtain ⟨b,o,cap,c,E',fz,rfl,hS,hR⟩:=h.at_ hi
 refine aD hu hi ?_
 refine aC hf ?_
 refine cA hU ?_ hk
 rw [hI.cellS hS]
 exact aL rfl d u (hc _ hR)
theorem ae {T U ty ty' E:TypeId} {f d b:Nat} {c:Array Value} {u:Value} (hI:Inv w0 X L S w) (i:Nat) (hi:L[i]?=some (.blk b (.cells c E))) (hf:bz P T f=some d) (hU:iq P U=true) (hc:c[d]?=some u)
  (hk:K (.pointer (some ⟨b,d,none⟩)) u w):Run P (sOp (.fieldAddr T (.const (.pointer (some ⟨b,0,none⟩))) f) ty) w fun q w'=>Run P (sOp (.load U (.const q)) ty') w' (K q):=by
 refine aC hf ?_
 rw [cZ]
 exact bb hI i hU hi hc hk
end
end
theorem Pure.mk {P:Program} {f:FuncId} {args:List Value} {S:ad} {r:Value} (h:∀ w:World,Inv w [] [] S w->Calls P f args.toArray w fun e w'=>e=.returned r/\Inv w [] [] S w'):Pure P f args S r:=h
theorem done {w w':World} {L:List Item} {S:ad} {r r':Value} (h:Inv w [] L S w') (e:r'=r):Ending.returned r'=.returned r/\Inv w [] [] S w':=⟨by rw [e],h.nil⟩

section
variable {P:Program} {w:World} {K:Value->World->Prop} {ty:TypeId}
theorem bx {b:Bool} {A B:Prop} (h:A):aq (.bool b) b A B:=by unfold aq; simp only [if_true]; exact h
theorem db {c b:Bool} {A B:Prop} (hc:c≠b) (h:B):aq (.bool c) b A B:=by unfold aq; simp only [af hc]; exact h
theorem HU {b:Bool} {A B:Prop} (h:B):aq undef b A B:=by unfold aq; exact h
theorem zW {v u:Value} (hk:K v w):Run P (sOp (.pick (.const (.bool true)) (.const v) (.const u)) ty) w K:=sK hk
theorem rm {v u:Value} (hk:K u w):Run P (sOp (.pick (.const (.bool false)) (.const v) (.const u)) ty) w K:=sK hk
theorem rpG {p q:Prop} (h:q) (i:q->p:=by (intro h; (repeat (first|refine bx ?_|refine db (by decide) ?_|refine HU ?_|refine zW ?_|refine rm ?_)); exact h)):p:=i h
end
end
section
open Go Go.RowKit
attribute [local irreducible] Run CondV aq aK

def lG (P:Program) (T:TypeId):Option (TypeId × Nat × Nat × Value):=match P.underlying T with
 | some (.slice e)=>match P.info? e with
  | some i=>match i.zero with
   | some z=>match Nat.beq z.cells.size i.size with
    | true=>some (e,i.size,i.bytes,z)
    | false=>none
   | none=>none
  | none=>none
 | _=>none
theorem rq {P:Program} {T e:TypeId} {k by_:Nat} {z:Value} (h:lG P T=some (e,k,by_,z)) :
  P.underlying T=some (.slice e)/\∃ i,P.info? e=some i/\i.zero=some z/\i.size=k/\i.bytes=by_/\z.cells.size=k:=by
 unfold lG at h
 split at h <;> try cases h
 rename_i e' hu
 split at h <;> try cases h
 rename_i i hi
 split at h <;> try cases h
 rename_i z' hz
 split at h <;> try cases h
 rename_i hb
 exact ⟨hu,i,hi,hz,rfl,rfl,Ha hb⟩

theorem Hs:∀ (l:List Value) (o j:Nat) (cs:Array Value),o+j+l.length<=cs.size->
  (l.zipIdx j).foldl (fun cs p=>cs.setIfInBounds (o+p.2) p.1) cs=bR cs (o+j) l
 | [],o,j,cs,_=>by simp [bR]
 | v::l,o,j,cs,h=>by
  simp only [bk] at h
  rw [List.zipIdx_cons,List.foldl_cons,Hs l o (j+1) _ (by simp; omega)]
  apply Bk.1
  simp only [bR,bk]
  rw [Rv,show o+(j+1)=o+j+1 by omega]
  have hlt:o+j<cs.toList.length:=by simp; omega
  rw [fy (by simpa using hlt),List.take_set_of_le (aM _)]
  simp only [Jk,eI,gt,sv]
  rw [List.drop_set_of_lt (by omega),show o+j+1+l.length=o+j+(l.length+1) by omega]
theorem Hx (v:Value) (o:Nat) (cs:Array Value) (h:o+v.cells.size<=cs.size) :
  v.cells.zipIdx.foldl (fun cs (c,j)=>cs.setIfInBounds (o+j) c) cs=bR cs o v.cells.toList:=by
 rw [<- Array.foldl_toList,Array.toList_zipIdx]
 exact Hs v.cells.toList o 0 cs (by simpa using h)
theorem lU (c:Array Value) (o:Nat) (vs:List Value) (h:o+vs.length<=c.size):(bR c o vs).size=c.size:=by
 simp [bR]; omega
theorem vV (c:Array Value) (vs:List Value) (h:vs.length=c.size):bR c 0 vs=vs.toArray:=by
 simp [bR,h]
theorem jR {c:Array Value} {o:Nat} {vs:List Value} {p k:Nat} (hf:o+vs.length<=c.size) (h:p+k<=o ∨ o+vs.length<=p):ba (bR c o vs) p k=ba c p k:=by
 apply tk
 intro i
 simp only [ba,bR,tx,uD]
 split
 ·rename_i hi
  simp only [List.getElem?_append,bh,dN,tx,uD,KY]
  rcases h with h|h
  ·rw [ai (by omega),ai (by omega),ai (by omega)]
  ·rw [af (by omega)]
   congr 1
   omega
 ·rfl
theorem ip {c:Array Value} {o:Nat} {vs:List Value} (hf:o+vs.length<=c.size):ba (bR c o vs) o vs.length=vs:=by
 simp only [ba,bR]
 rw [eI,List.drop_append_of_le_length (by simp; omega),tM (by simp; omega),sv,BZ]

section
variable {P:Program} {w w0:World} {X:List Nat} {L:List Item} {S:ad} {K:Value->World->Prop}

theorem rj (h:Inv w0 X L S w) {T e:TypeId} {k by_:Nat} {z v:Value} (hT:lG P T=some (e,k,by_,z)) (hv:v.cells.size=k) (hk24:k<=65536) (hk0:0<k)
  (hk:∀ w',Inv w0 X (L++[.blk w.heap.size (.cells v.cells e)]) S w'->K (.slice (some ⟨w.heap.size,0,none⟩) 1 1) w') :
  Run P (bF T 1 [(0,v)]) w K:=by
 obtain ⟨hu,i,hi,hz,hs,hb,hzs⟩:=rq hT
 refine Run.of (v:=.slice (some ⟨w.heap.size,0,none⟩) 1 1) (w':={ w with heap:=w.heap.push (.cells v.cells e) }) ?_ (hk _ (h.alloc _))
 have h1:¬ (k > 2 ^ 24):=by omega
 have h2:¬ k=0:=by omega
 have hf:Instr.fill (fun i=>some (i * k,k)) ((Array.range k).map (z.cells[· % z.cells.size]!)) [(0,v)]=some v.cells:=by
  simp only [Instr.fill,wG,cZ,hv,Array.size_map,Array.size_range,ne_eq,not_true_eq_false,decide_false,gt_iff_lt,Nat.lt_irrefl,Bool.or_self,if_false,H0]
  have:=Hx v 0 ((Array.range k).map (z.cells[· % z.cells.size]!)) (by simp [hv])
  simp only [cZ] at this
  rw [this,vV _ _ (by simp [hv])]
 simp [bF,Instr.buildSlice,run_underlying hu,sizeOf,typeInfo,hi,hs,h1,h2,zeroValue,hz,hf,newRow,newObj,Sem.run]
theorem d6 (h:Inv w0 X L S w) {T e:TypeId} {k by_:Nat} {z v:Value} (hT:lG P T=some (e,k,by_,z)) (hv:v.cells.size=k) (hk24:k<=65536) (hk0:0<k)
  (hk:∀ b w',Inv w0 X (L++[.blk b (.cells v.cells e)]) S w'->K (.slice (some ⟨b,0,none⟩) 1 1) w') :
  Run P (bF T 1 [(0,v)]) w K:=rj h hT hv hk24 hk0 (hk _)
theorem d3 (h:Inv w0 X L S w) {T e:TypeId} {k by_:Nat} {z:Value} (hT:lG P T=some (e,k,by_,z))
  (hk:∀ v w',Inv w0 X (L++[.row v e k 0 []]) S w'->K v w') :
  Run P (bF T 0 []) w K:=by
 obtain ⟨hu,i,hi,hz,hs,hb,hzs⟩:=rq hT
 have hI:Inv w0 X (L++[.row (.slice (some ⟨w.heap.size,0,none⟩) 0 0) e k 0 []]) S { w with heap:=w.heap.push (.cells #[] e) }:=by
  refine h.addItem (w':={ w with heap:=w.heap.push (.cells #[] e) }) ⟨by simp,rfl,rfl,rfl,fun b hb=>by simp [Array.getElem?_push,Nat.ne_of_lt hb]⟩ ?_ ?_ ?_
  ·exact ⟨by simp,.inr ⟨w.heap.size,0,#[],rfl,aR _,by simp,aM _,aR _,by simp,by simp⟩⟩
  ·simp [Item.foot,Value.ownBlock]
  ·simp [Item.foot,Value.ownBlock]
 refine Run.of (v:=.slice (some ⟨w.heap.size,0,none⟩) 0 0) (w':={ w with heap:=w.heap.push (.cells #[] e) }) ?_ (hk _ _ hI)
 have hr:∀ f:Nat->Value,(Array.range 0).map f=#[]:=fun f=>by simp
 simp [bF,Instr.buildSlice,run_underlying hu,sizeOf,typeInfo,hi,Instr.fill,newRow,newObj,Sem.run,hr]

theorem Inv.rowNil (h:Inv w0 X L S w) (e:TypeId) (k:Nat):Inv w0 X (L++[.row (.slice none 0 0) e k 0 []]) S w:=
 h.addItem (Grow.refl w) (it:=.row (.slice none 0 0) e k 0 []) (World.ownsRow_nil w 0 e k) (by simp [Item.foot,Value.ownBlock]) (by simp [Item.foot,Value.ownBlock])

theorem GV {P:Program} (w:World) (T ty e:TypeId) (inf:TypeInfo) (z:Value) (hu:P.underlying T=some (.slice e)) (hi:P.info? e=some inf) (hz:inf.zero=some z)
  {v v':Value} {n m cp:Nat} {xs news:List Value} {a:Addr} {w':World} (hown:w.ownsRow 0 e inf.size v n xs)
  (hl:news.length=m * inf.size) (hnews:∀ j u,news[j]?=some u->w.cell? (a.add j)=some u) (h1:∀ u∈news,u.oneCell'=true) (hfit:n+m<=4294967296) (hbytes:(n+m) * inf.bytes<=140737488355328)
  (hr:(Builtin.append_ #[T,T] ty #[v,.slice (some a) m cp]).run P w=.ok v' w') (hnil:v'=.slice none 0 0↔v=.slice none 0 0/\m=0) :
  ∀ c,v'.ownBlock=some c->v.ownBlock=some c ∨ w.heap.size<=c:=by
 intro c hc
 rcases hown.2 with ⟨rfl,rfl⟩|⟨g,cap,cur,rfl,_,hg,hnc,hcm,hcs,htake⟩
 ·by_cases hm:m=0
  ·rw [hnil.2 ⟨rfl,hm⟩] at hc
   simp [Value.ownBlock] at hc
  ·have h2:=run_append_nil (P:=P) (w:=w) T ty e inf z hu hi hz a m cp news hl hnews (by omega) (by omega) (by simp only [cZ] at hbytes; omega)
   rw [hr] at h2
   simp only [Result.ok.injEq] at h2
   rw [h2.1] at hc
   simp only [Value.ownBlock,aT] at hc
   right; omega
 ·by_cases hroom:n+m<=cap
  ·have h2:=run_append_room (P:=P) w T ty e inf hu hi g n cap cur hg a m cp news hl hnews h1 hroom (by rw [hl,hcs,<- wq]; exact iy _ hroom)
   rw [hr] at h2
   simp only [Result.ok.injEq] at h2
   rw [h2.1] at hc
   left; exact hc
  ·have h2:=run_append_grow (P:=P) (w:=w) T ty e inf z hu hi hz ⟨g,0,none⟩ n cap xs hown.1 (hown.cells (g:=g) rfl) a m cp news hl hnews (by omega) (by omega) (growslice_fits (by omega) hbytes)
   rw [hr] at h2
   simp only [Result.ok.injEq] at h2
   rw [h2.1] at hc
   simp only [Value.ownBlock,aT] at hc
   right; omega

theorem dy (h:Inv w0 X L S w) {T ty e:TypeId} {k by_ n m cp b o:Nat} {z v:Value} {cs:List Bool} {xs:List Value} (i:Nat) (news:List Value)
  (hT:lG P T=some (e,k,by_,z)) (hk0:0<k) (hi:L[i]?=some (.row v e k n xs)) (hl:news.length=m * k)
  (hnews:∀ j u,news[j]?=some u->w.cell? ⟨b,o+j,none⟩=some u) (h1:∀ u∈news,u.oneCell'=true) (hfit:n+m<=4294967296) (hby:by_<=32768)
  (hk:∀ v' w',Inv w0 X (L.set i (.row v' e k (n+m) (xs++news))) S w'->K v' w') :
  Run P (bH .append #[T,T] ty cs [v,.slice (some ⟨b,o,none⟩) m cp]) w K:=by
 obtain ⟨hu,inf,hi',hz,hs,hb,hzs⟩:=rq hT
 have hown:=h.its _ (du hi)
 simp only [Item.holds] at hown
 have hbytes:(n+m) * by_<=140737488355328:=il (Nat.mul_le_mul hfit hby) (by decide)
 have hnews':∀ j u,news[j]?=some u->w.cell? ((⟨b,o,none⟩:Addr).add j)=some u:=fun j u hj=>by rw [kL]; exact hnews j u hj
 obtain ⟨v',w',hr,h2,h3,h4⟩:=run_append_own (P:=P) w 0 T ty e inf z k by_ hu hi' hz hs hb hzs hk0 v n xs hown ⟨b,o,none⟩ m cp news hl
  hnews' h1 (by simp only [maxLen]; omega) hbytes (aR _)
 have hwh:=GV (P:=P) w T ty e inf z hu hi' hz (by rw [hs]; exact hown) (by rw [hs]; exact hl) hnews' h1 hfit (by rw [hb]; exact hbytes) hr h4
 refine Run.of (v:=v') (w':=w') ?_ (hk _ _ ?_)
 ·simp [bH,builtin,hr]
 ·refine h.change hi h3.size h3.os h3.tape h3.output (fun c hc hc'=>h3.block c hc ?_) (it':=.row v' e k (n+m) (xs++news)) h2 ?_ ?_
  ·intro e'
   exact hc' (by simp [Item.foot,<- e'])
  ·intro c hc
   simp only [Item.foot,Option.mem_toList] at hc ⊢
   exact hwh c hc
  ·cases v' <;> simp [Item.foot,Value.ownBlock]
   rename_i a _ _
   cases a <;> simp
end
def Fx (D:Nat->Bool):Nat->List Prop->Prop
 | _,[]=>True
 | k,p::l=>(D k=true->p)/\Fx D (k+1) l
def RU (D:Nat->Bool):Nat->List Prop->Prop
 | _,[]=>True
 | k,_::l=>D k=true/\RU D (k+1) l
def RI:List Prop->Prop
 | []=>True
 | p::l=>p/\RI l
theorem Fx.nil:∀ (k:Nat) (l:List Prop),Fx (fun _=>false) k l
 | _,[]=>trivial
 | k,_::l=>⟨aQ,Fx.nil (k+1) l⟩
theorem Fx.low {D:Nat->Bool} {m:Nat}:∀ (k:Nat) (l:List Prop),m<k->Fx D k l->Fx (aB D m) k l
 | _,[],_,_=>trivial
 | k,p::l,hm,h=>⟨fun e=>h.1 (by
   have:Nat.beq k m=false:=by rw [cq]; intro h2; have:=Ha h2; omega
   simpa [aB,this] using e),Fx.low (k+1) l (by omega) h.2⟩
theorem Fx.setK {D:Nat->Bool} {p:Prop} (hp:p):∀ (m k:Nat) (l:List Prop),Fx D k l->Fx (aB D (k+m)) k (l.set m p)
 | _,_,[],_=>trivial
 | 0,k,q::l,h=>⟨fun _=>hp,Fx.low (k+1) l (by omega) h.2⟩
 | m+1,k,q::l,h=>⟨fun e=>h.1 (by
   have:Nat.beq k (k+(m+1))=false:=by rw [cq]; intro h2; have:=Ha h2; omega
   simpa [aB,this] using e),by
   have:=Fx.setK hp m (k+1) l h.2
   rwa [show k+1+m=k+(m+1) by omega] at this⟩
theorem Fx.set {D:Nat->Bool} {l:List Prop} (h:Fx D 0 l) (m:Nat) {p:Prop} (hp:p):Fx (aB D m) 0 (l.set m p):=by
 have:=Fx.setK hp m 0 l h
 rwa [cZ] at this
theorem Fx.allK {D:Nat->Bool}:∀ (k:Nat) (l:List Prop),Fx D k l->RU D k l->RI l
 | _,[],_,_=>trivial
 | k,_::l,h,hd=>⟨h.1 hd.1,Fx.allK (k+1) l h.2 hd.2⟩
theorem Fx.all {D:Nat->Bool} {l:List Prop} (h:Fx D 0 l) (hd:RU D 0 l:=by repeat (first|exact trivial|refine And.intro (by assumption) ?_)):RI l:=Fx.allK 0 l h hd
def UD (P:Program) (t:TypeId):Option (List (Nat × TypeId)):=match P.underlying t with
 | some (.struct fs)=>some (fs.toList.map fun f=>(f.offset,f.type))
 | _=>none
end
end Go.Proofs.YtcpgagfdeflbkaaGreatDoor
