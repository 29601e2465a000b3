/- A verification condition over the model's code, structural in the code, and its soundness: 'vc' gives 'Code.wp', 'calls_of_vc' gives 'Calls'. It speaks of any program. -/
import Derived.Orders
import Derived.Calls
import Derived.Laws.Sem
import Derived.Below
import Derived.Laws.AppendOwn
import Derived.Laws.Cells
import Derived.Laws.CopyRow
import Derived.Laws.Entries
import Derived.IntWalk
import Derived.Lib.IndexBytes
namespace Go.Proofs.YtjbcdmheajljpaaGreat
section
open Go
abbrev Qy:=@Array.getElem?_eq_some_iff
abbrev PN:=@Array.getElem?_setIfInBounds_ne
abbrev Np:=@Array.length_toList
abbrev zo:=@Array.toList_inj
abbrev FK:=@Array.toList_push
abbrev QN:=@Array.toList_setIfInBounds
abbrev RW:=@Bool.and_eq_false_iff
abbrev bJ:=@Bool.and_eq_true
abbrev Bi:=@Bool.and_false
abbrev cS:=@Bool.eq_false_iff
abbrev rZ:=@Bool.eq_iff_iff
abbrev ig:=@Bool.false_and
abbrev pQ:=@Bool.false_eq_true
abbrev gI:=@Bool.false_or
abbrev Po:=@Bool.not_eq_false'
abbrev Mn:=@Bool.not_eq_true
abbrev rn:=@Bool.not_eq_true'
abbrev DV:=@Bool.not_true
abbrev LE:=@Bool.or_eq_false_iff
abbrev lQ:=@Bool.or_eq_true
abbrev Mv:=@Bool.or_true
abbrev eL:=@Bool.true_and
abbrev uF:=@Bool.true_or
abbrev eP:=@Int.le_refl
abbrev LA:=@Int.le_trans
abbrev eB:=@Int.toNat_natCast
abbrev ol:=@Int.toNat_of_nonneg
abbrev En:=@Int.zero_add
abbrev Bx:=@List.Perm.append_left
abbrev LZ:=@List.all_cons
abbrev fS:=@List.all_eq_true
abbrev fm:=@List.any_cons
abbrev cN:=@List.append_assoc
abbrev dc:=@List.append_nil
abbrev rD:=@List.cons.injEq
abbrev dQ:=@List.cons_append
abbrev OO:=@List.drop_append_of_le_length
abbrev G8:=@List.drop_drop
abbrev dR:=@List.drop_eq_getElem_cons
abbrev Cj:=@List.drop_eq_nil_of_le
abbrev ew:=@List.drop_length
abbrev Hr:=@List.drop_take
abbrev dT:=@List.drop_zero
abbrev jK:=@List.eq_nil_of_length_eq_zero
abbrev Q3:=@List.eraseIdx_eq_take_drop_succ
abbrev Mp:=@List.ext_getElem?
abbrev GT:=@List.flatMap_cons
abbrev BP:=@List.flatten_append
abbrev iX:=@List.flatten_cons
abbrev s4:=@List.flatten_nil
abbrev Pf:=@List.getElem?_append_left
abbrev kV:=@List.getElem?_append_right
abbrev lY:=@List.getElem?_cons_succ
abbrev DO:=@List.getElem?_cons_zero
abbrev xI:=@List.getElem?_drop
abbrev z9:=@List.getElem?_eq_getElem
abbrev NK:=@List.getElem?_eq_none
abbrev iu:=@List.getElem?_eq_some_iff
abbrev Hv:=@List.getElem?_replicate
abbrev xK:=@List.getElem?_set
abbrev GI:=@List.getElem?_set_ne
abbrev Ie:=@List.getElem?_set_self
abbrev yI:=@List.getElem?_take
abbrev oo:=@List.getElem_append_left
abbrev pM:=@List.getElem_append_right
abbrev Pe:=@List.getElem_cons_succ
abbrev oC:=@List.getElem_cons_zero
abbrev Bq:=@List.getElem_map
abbrev cH:=@List.getElem_mem
abbrev Ov:=@List.getElem_of_mem
abbrev LW:=@List.getElem_set
abbrev LP:=@List.getElem_set_ne
abbrev Hi:=@List.getElem_set_self
abbrev Oq:=@List.getElem_take
abbrev bv:=@List.length_append
abbrev aO:=@List.length_cons
abbrev tu:=@List.length_drop
abbrev ut:=@List.length_map
abbrev cq:=@List.length_nil
abbrev jR:=@List.length_set
abbrev vh:=@List.length_singleton
abbrev iJ:=@List.length_take
abbrev th:=@List.map_append
abbrev Ef:=@List.map_cons
abbrev L7:=@List.map_nil
abbrev cI:=@List.mem_append
abbrev ic:=@List.mem_append_left
abbrev iW:=@List.mem_append_right
abbrev ek:=@List.mem_cons
abbrev bV:=@List.mem_cons_of_mem
abbrev bL:=@List.mem_cons_self
abbrev Lx:=@List.mem_iff_getElem
abbrev ng:=@List.mem_map
abbrev fj:=@List.mem_of_getElem?
abbrev N9:=@List.mem_of_mem_drop
abbrev Mi:=@List.mem_or_eq_of_mem_set
abbrev cO:=@List.mem_singleton
abbrev rC:=@List.nil_append
abbrev A8:=@List.nodup_append
abbrev Ln:=@List.not_mem_nil
abbrev bK:=@List.perm_append_comm
abbrev zal101:=@List.perm_middle
abbrev JI:=@List.set_append_left
abbrev wJ:=@List.set_eq_take_append_cons_drop
abbrev gR:=@List.sublist_append_left
abbrev dU:=@List.sublist_append_right
abbrev gS:=@List.sublist_cons_self
abbrev JR:=@List.take_append_of_le_length
abbrev iz:=@List.take_length
abbrev AQ:=@List.take_of_length_le
abbrev Kd:=@List.take_succ_cons
abbrev ia:=@List.take_succ_eq_append_getElem
abbrev Fg:=@List.take_take
abbrev E9:=@List.take_zero
abbrev gq:=@Nat.add_mul
abbrev sP:=@Nat.add_sub_cancel_left
abbrev wU:=@Nat.add_zero
abbrev BL:=@Nat.eq_of_beq_eq_true
abbrev Ce:=@Nat.le_of_ble_eq_true
abbrev be:=@Nat.le_refl
abbrev FJ:=@Nat.le_succ
abbrev g9:=@Nat.le_trans
abbrev FE:=@Nat.lt_or_ge
abbrev KP:=@Nat.lt_succ_self
abbrev AM:=@Nat.min_eq_left
abbrev wv:=@Nat.mod_lt
abbrev fH:=@Nat.mul_le_mul_right
abbrev l3:=@Nat.one_mul
abbrev Ke:=@Nat.pow_le_pow_right
abbrev fg:=@Nat.sub_self
abbrev jc:=@Nat.succ_mul
abbrev df:=@Nat.zero_add
abbrev aK:=@Nat.zero_le
abbrev mj:=@Nat.zero_mul
abbrev l7:=@Option.bind_eq_some_iff
abbrev nH:=@Option.bind_some
abbrev JF:=@Option.getD_some
abbrev l0:=@Option.map_eq_some_iff
abbrev la:=@Option.map_some
abbrev bh:=@Option.some.injEq
abbrev di:=@Prod.mk.injEq
abbrev Gp:=@beq_self_eq_true
abbrev iq:=@decide_eq_decide
abbrev bf:=@decide_eq_false
abbrev ml:=@decide_eq_false_iff_not
abbrev aP:=@decide_eq_true
abbrev bE:=@decide_eq_true_eq
abbrev ae:=@if_neg
abbrev af:=@if_pos
abbrev sa:=@true_and
theorem aY {P:Prop} (h:false=true):P:=Bool.noConfusion h

abbrev Env:=Nat->Value
def upd (ρ:Env) (d:Nat) (v:Value):Env:=fun t=>match Nat.beq t d with
 | true=>v
 | false=>ρ t
def rh (ρ:Env) (dst:Option Nat) (v:Value):Env:=match dst with
 | some d=>upd ρ d v
 | none=>ρ
def evE (ρ:Env):Operand->Value
 | .tmp t=>ρ t
 | .const v=>v
 | .global g=>.pointer (some ⟨g,0,none⟩)
 | .func f=>.func (.func f) #[] #[]

def Run (P:Program) (s:Sem Next) (w:World) (K:Value->World->Prop):Prop:=
 match s.run P w with
 | .ok (.value v) w'=>K v w'
 | .ok .skip w'=>K undef w'
 | .ok (.enter f args) w'=>Calls P f args w' fun
   | .returned v,w''=>K v w''
   | _,_=>False
 | _=>False

def ev0:Operand->Value:=evE fun _=>undef
def sOp (op:Op) (ty:TypeId):Sem Next:=execOp ev0 ⟨none,op,ty,"",#[],none⟩
def dh (op:BinOp) (T:TypeId) (cx cy:Bool) (x y:Value):Sem Next:=do
 eqGuard op T (bif cx then .const x else .tmp 0) (bif cy then .const y else .tmp 0) x y
 pure (.value (<- binOp op T x y))
def bR (T:TypeId) (ps:List (Nat × Value)):Sem Next:=do pure (.value (<- Instr.build T ps.toArray))
def bI (T:TypeId) (n:Nat) (ps:List (Nat × Value)):Sem Next:=do pure (.value (<- Instr.buildSlice T n ps.toArray))
def eN (fn:Fn) (first captured:List Value):Sem Next:=do pure (.value (<- Instr.makeFunc fn first.toArray captured.toArray))
def fa (f:Value) (args:List Value):Sem Next:=do
 let d <- Deferred.ofValue f args.toArray
 invoke d.target d.args
def bO (b:Builtin) (ts:Array TypeId) (ty:TypeId) (cs:List Bool) (args:List Value):Sem Next:=
 builtin b ts ty cs.toArray args.toArray
def isC:Operand->Bool
 | .const _=>true
 | _=>false
def cl (ρ:Env) (x:Operand):Operand:=.const (evE ρ x)
def TQ (ρ:Env):Op->Op
 | .pick c a b=>.pick (cl ρ c) (cl ρ a) (cl ρ b)
 | .alloc e=>.alloc e
 | .box e v=>.box e (cl ρ v)
 | .load t a=>.load t (cl ρ a)
 | .store t a v=>.store t (cl ρ a) (cl ρ v)
 | .nilCheck x=>.nilCheck (cl ρ x)
 | .unOp o t x=>.unOp o t (cl ρ x)
 | .convert s d x=>.convert s d (cl ρ x)
 | .makeInterface t x=>.makeInterface t (cl ρ x)
 | .makeMap t r=>.makeMap t (r.map (cl ρ))
 | .makeSlice t l c=>.makeSlice t (cl ρ l) (cl ρ c)
 | .slice t x l h m=>.slice t (cl ρ x) (l.map (cl ρ)) (h.map (cl ρ)) (m.map (cl ρ))
 | .fieldAddr t x f=>.fieldAddr t (cl ρ x) f
 | .field t x f=>.field t (cl ρ x) f
 | .indexAddr t x i=>.indexAddr t (cl ρ x) (cl ρ i)
 | .index t x i=>.index t (cl ρ x) (cl ρ i)
 | .lookup t x i ok=>.lookup t (cl ρ x) (cl ρ i) ok
 | .mapUpdate t m k v=>.mapUpdate t (cl ρ m) (cl ρ k) (cl ρ v)
 | .range t x=>.range t (cl ρ x)
 | .next x b=>.next (cl ρ x) b
 | .extract t i=>.extract (cl ρ t) i
 | .typeAssert x t a ok=>.typeAssert (cl ρ x) t a ok
 | op=>op
def Rm:Op->Bool
 | .pick ..|.alloc ..|.box ..|.load ..|.store ..|.nilCheck ..|.unOp ..|.convert ..|.makeInterface ..|.makeMap ..|.makeSlice ..|.slice ..
 | .fieldAddr ..|.field ..|.indexAddr ..|.index ..|.lookup ..|.mapUpdate ..|.range ..|.next ..|.extract ..|.typeAssert ..=>true
 | _=>false
def HY (ρ:Env) (o:Oper):Sem Next:=match o.op with
 | .binOp op T x y _=>dh op T (isC x) (isC y) (evE ρ x) (evE ρ y)
 | .build t ps=>bR t (ps.toList.map fun p=>(p.1,evE ρ p.2))
 | .buildSlice t n ps=>bI t n (ps.toList.map fun p=>(p.1,evE ρ p.2))
 | .makeFunc fn a b=>eN fn (a.toList.map (evE ρ)) (b.toList.map (evE ρ))
 | .call c=>match c.callee with
  | .value f=>fa (evE ρ f) (c.args.toList.map (evE ρ))
  | .builtin b=>bO b c.argTypes o.type (c.args.toList.map isC) (c.args.toList.map (evE ρ))
  | .invoke ..=>execOp (evE ρ) o
 | op=>match Rm op with
  | true=>sOp (TQ ρ op) o.type
  | false=>execOp (evE ρ) o

def stepE (P:Program) (o:Oper) (ρ:Env) (w:World) (K:Value->World->Prop):Prop:=match o.op with
 | .move x|.assign x=>K (evE ρ x) w
 | _=>Run P (HY ρ o) w K

def aC (v:Value) (b:Bool) (A B:Prop):Prop:=match v with
 | .bool c=>if c=b then A else B
 | _=>B
def GuardO (ops:List Oper) (ρ:Env) (g:Option (Nat × Bool)) (A B:Prop):Prop:=match g with
 | none=>A
 | some (j,b)=>match (ops[j]?).bind (·.dst) with
  | some d=>aC (ρ d) b A B
  | none=>B

def opE (P:Program) (ops:List Oper) (o:Oper) (ρ:Env) (w:World) (K:Env->World->Prop):Prop:=
 GuardO ops ρ o.guard (stepE P o ρ w fun v w'=>K (rh ρ o.dst v) w') (K (rh ρ o.dst undef) w)

def jd (g h:Option (Nat × Bool)):Bool:=match g,h with
 | some (i,a),some (j,b)=>Nat.beq i j && (a == b)
 | none,none=>true
 | _,_=>false
def grp (g:Option (Nat × Bool)):List Oper->List Oper
 | []=>[]
 | o::os=>match jd g o.guard with
  | true=>o::grp g os
  | false=>[]
def lW (g:Option (Nat × Bool)):List Oper->List Oper
 | []=>[]
 | o::os=>match jd g o.guard with
  | true=>lW g os
  | false=>o::os
def M5 (P:Program):List Oper->Env->World->(Env->World->Prop)->Prop
 | [],ρ,w,K=>K ρ w
 | o::os,ρ,w,K=>stepE P o ρ w fun v w'=>M5 P os (rh ρ o.dst v) w' K
def IY:List Oper->Env->Env
 | [],ρ=>ρ
 | o::os,ρ=>IY os (rh ρ o.dst undef)
def xD (P:Program) (all:List Oper) (n:Nat):List Oper->Env->World->(Env->World->Prop)->Prop:=
 Nat.rec (fun _ _ _ _=>False) (fun _ ih l ρ w K=>match l with
  | []=>K ρ w
  | o::os=>match o.guard with
   | none=>stepE P o ρ w fun v w'=>ih os (rh ρ o.dst v) w' K
   | some g=>GuardO all ρ (some g)
     (M5 P (o::grp (some g) os) ρ w fun ρ' w'=>ih (lW (some g) os) ρ' w' K)
     (ih (lW (some g) os) (IY (o::grp (some g) os) ρ) w K)) n

def aE (D:Nat->Bool) (i:Nat):Nat->Bool:=fun j=>bif Nat.beq j i then true else D j
def rO:List Edge->(Nat->Bool)->Prop->Prop
 | [],_,p=>p
 | e::es,D,p=>match Region.binds .any e with
  | true=>D e.on=true->rO es D p
  | false=>rO es D p
def vJ:Nat->(Nat->Bool)->Prop->Prop
 | 0,_,p=>p
 | n+1,D,p=>D n=true->vJ n D p
def Cur (α:Type):List Nat->Type
 | []=>α
 | _::l=>Value->Cur α l
def ap {α:Type}:(l:List Nat)->Cur α l->Env->α
 | [],f,_=>f
 | m::l,f,ρ=>ap l (f (ρ m)) ρ
def kj:List Nat->Env->(Env->Prop)->Prop
 | [],ρ,p=>p ρ
 | m::l,ρ,p=>∀ x:Value,kj l (upd ρ m x) p

def na:List Oper->List Nat->List Nat
 | [],l=>l
 | o::os,l=>match o.dst with
  | some d=>match l.elem d with
   | true=>na os l
   | false=>na os (d::l)
  | none=>na os l
def xf (P:Program) (all:List Oper) (M:List Nat) (A:(Nat->Bool)->Cur (World->Prop) M) (ρ:Env):Nat->List Oper->Prop
 | _,[]=>True
 | i,o::os=>(∀ D,D i=false->rO o.after.toList D (kj M ρ fun ρ'=>∀ w',ap M (A D) ρ' w'->
   opE P all o ρ' w' fun ρ'' w''=>ap M (A (aE D i)) ρ'' w''))/\xf P all M A ρ (i+1) os
def Lb (P:Program) (ops:List Oper) (ρ:Env) (w:World) (K:Env->World->Prop):Prop:=
 ∃ A:(Nat->Bool)->Cur (World->Prop) (na ops []),ap (na ops []) (A fun _=>false) ρ { w with drawn:=w.drawn+1 }/\
  xf P ops (na ops []) A ρ 0 ops/\
  ∀ D,vJ ops.length D (kj (na ops []) ρ fun ρ'=>∀ w',ap (na ops []) (A D) ρ' w'->K ρ' w')

inductive An where
 | leaf
 | seq (cut:Option (List Nat)) (l r:An)
 | two (l r:An)
 | one (l:An)
 | loop (live:List Nat) (l:An)
def An.cut:An->Option (List Nat)
 | .seq c _ _=>c
 | _=>none
def An.l:An->An
 | .seq _ a _|.two a _|.one a|.loop _ a=>a
 | .leaf=>.leaf
def An.r:An->An
 | .seq _ _ b|.two _ b=>b
 | _=>.leaf
def An.live:An->List Nat
 | .loop l _=>l
 | _=>[]

def wr:Code->List Nat->List Nat
 | .region _ ops _,l=>na ops.toList l
 | .seq a b,l=>wr b (wr a l)
 | .cond _ a b,l=>wr b (wr a l)
 | .block _ a,l|.loop a,l|.scope a,l=>wr a l
 | _,l=>l

abbrev yr (K:Env->World->Prop) (Q:Exit->Env->World->Prop):Exit->Env->World->Prop
 | .normal,ρ,w=>K ρ w
 | e,ρ,w=>Q e ρ w
abbrev La (id:Nat) (Q:Exit->Env->World->Prop):Exit->Env->World->Prop
 | .exit id',ρ,w=>match Nat.beq id' id with
  | true=>Q .normal ρ w
  | false=>Q (.exit id') ρ w
 | e,ρ,w=>Q e ρ w

def CondV (v:Value) (A B:Prop):Prop:=match v with
 | .bool c=>if c=true then A else B
 | _=>False

def vc (P:Program):Code->An->(Exit->Env->World->Prop)->Env->World->Prop
 | .skip,_,Q,ρ,w=>Q .normal ρ w
 | .ret,_,Q,ρ,w=>Q .ret ρ w
 | .exit id,_,Q,ρ,w=>Q (.exit id) ρ w
 | .region _ ops draw,_,Q,ρ,w=>
  match draw with
  | true=>Lb P ops.toList ρ w (Q .normal)
  | false=>xD P ops.toList (ops.toList.length+1) ops.toList ρ w (Q .normal)
 | .seq a b,an,Q,ρ,w=>match an.cut with
  | none=>vc P a an.l (yr (vc P b an.r Q) Q) ρ w
  | some lv=>∃ J:Cur (World->Prop) lv,vc P a an.l (yr (ap lv J) Q) ρ w/\
    kj (wr a []) ρ fun ρ'=>∀ w',ap lv J ρ' w'->vc P b an.r Q ρ' w'
 | .cond c a b,an,Q,ρ,w=>CondV (evE ρ c) (vc P a an.l Q ρ w) (vc P b an.r Q ρ w)
 | .block id a,an,Q,ρ,w=>vc P a an.l (La id Q) ρ w
 | .loop a,an,Q,ρ,w=>∃ (I:Cur (World->Prop) an.live) (μ:Cur (World->Nat) an.live),ap an.live I ρ w/\
   kj (wr a []) ρ fun ρ'=>∀ w',ap an.live I ρ' w'->
    vc P a an.l (yr (fun ρ'' w''=>ap an.live I ρ'' w''/\ap an.live μ ρ'' w''<ap an.live μ ρ' w') Q) ρ' w'
 | _,_,_,_,_=>False
end
section
open Go

def Nb (n:Nat):Operand->Bool
 | .tmp t=>Nat.blt t n
 | _=>true
def Mc:Op->Bool
 | .select _ _=>false
 | _=>true
def F5 (n:Nat):Option Nat->Bool
 | some d=>Nat.blt d n
 | none=>true
def i6 (j d:Nat):Nat->List Oper->Bool
 | _,[]=>true
 | i,o::os=>(Nat.beq i j || !(o.dst == some d)) && i6 j d (i+1) os
def mD (n:Nat) (all:List Oper):Option (Nat × Bool)->Bool
 | none=>true
 | some (j,_)=>match (all[j]?).bind (·.dst) with
  | some d=>Nat.blt d n && i6 j d 0 all
  | none=>false
def lR (n:Nat) (all:List Oper) (o:Oper):Bool:=
 Mc o.op && F5 n o.dst && o.op.operands.toList.all (Nb n) && mD n all o.guard
def Ly (i:Nat):List Edge->Bool
 | []=>true
 | e::es=>(!Region.binds .any e || Nat.blt e.on i) && Ly i es
def zQ:Nat->List Oper->Bool
 | _,[]=>true
 | i,o::os=>Ly i o.after.toList && zQ (i+1) os
def jH:Nat->List Oper->Bool
 | _,[]=>true
 | i,o::os=>(match o.guard with|none=>true|some (j,_)=>Nat.blt j i) && jH (i+1) os
def vV (n:Nat):Code->Bool
 | .skip|.ret|.exit _=>true
 | .region _ ops draw=>ops.toList.all (lR n ops.toList) && jH 0 ops.toList && (!draw || zQ 0 ops.toList)
 | .seq a b=>vV n a && vV n b
 | .cond c a b=>Nb n c && vV n a && vV n b
 | .block _ a|.loop a=>vV n a
 | _=>false

structure Rel (n:Nat) (ρ:Env) (a:Act):Prop where
 size:a.tmps.size=n
 at_:∀ t,t<n->a.tmps[t]?=some (ρ t)
 out:∀ t,n<=t->ρ t=undef
 defers:a.defers=[]

theorem Rel.eval {n:Nat} {ρ:Env} {a:Act} (h:Rel n ρ a) {x:Operand} (g:Nb n x=true):a.eval x=evE ρ x:=by
 cases x with
 | tmp t=>
  have i:t<n:=by simpa [Nb,Nat.blt_eq] using g
  simp [Act.eval,evE,Array.getD_eq_getD_getElem?,h.at_ t i]
 | _=>rfl

theorem Aa (ρ:Env) (d:Nat) (v:Value):upd ρ d v d=v:=by simp [upd]
theorem pO (ρ:Env) {d t:Nat} (v:Value) (h:t≠d):upd ρ d v t=ρ t:=by
 have:Nat.beq t d=false:=by simpa [<- Bool.not_eq_true] using h
 simp [upd,this]

theorem Rel.put {n:Nat} {ρ:Env} {a:Act} (h:Rel n ρ a) {g:Option Nat} (j:F5 n g=true) (v:Value) :
  Rel n (rh ρ g v) (a.put g v):=by
 cases g with
 | none=>exact h
 | some d=>
  have l:d<n:=by simpa [F5,Nat.blt_eq] using j
  refine ⟨by simp [Act.put,h.size],fun t i=>?_,fun t i=>by rw [rh,pO ρ v (by omega)]; exact h.out t i,h.defers⟩;by_cases e:t=d
  ·subst e;simp [Act.put,rh,Aa,h.size,i]
  ·simp only [Act.put,rh,pO ρ v e];rw [PN (by omega)];exact h.at_ t i

theorem KM {n:Nat} {ρ:Env} {a:Act} (h:Rel n ρ a) {o:Oper} (g:Mc o.op=true)
  (i:o.op.operands.toList.all (Nb n)=true):execOp a.eval o=execOp (evE ρ) o:=by
 refine execOp_congr o ?_ ?_
 ·intro cs b e; rw [e] at g; simp [Mc] at g
 ·intro x j;exact h.eval (fS.1 i x (Array.mem_toList_iff.2 j))

theorem LY (ρ:Env) (o:Oper):execOp (evE ρ) o=HY ρ o:=by
 obtain ⟨C,op,q,D,j,p⟩:=o;cases op <;> try rfl
 case binOp op T x y u=>
  have M:∀ (x:Operand),(match (bif isC x then Operand.const (evE ρ x) else .tmp 0) with|.const _=>true|_=>false)=(match x with|.const _=>true|_=>false):=by
   intro x; cases x <;> rfl
  simp only [execOp,HY,dh];have G:eqGuard op T x y (evE ρ x) (evE ρ y)=eqGuard op T (bif isC x then Operand.const (evE ρ x) else .tmp 0) (bif isC y then Operand.const (evE ρ y) else .tmp 0) (evE ρ x) (evE ρ y):=by
   cases x <;> cases y <;> rfl
  rw [G];exact bind_assoc _ _ _
 case build t ps=>
  simp only [execOp,HY,bR]
  congr 2
  exact (zo.1 (by simp))
 case buildSlice t n ps=>
  simp only [execOp,HY,bI]
  congr 2
  exact (zo.1 (by simp))
 case makeFunc fn a b=>
  simp only [execOp,HY,eN]
  congr 2
  ·exact (zo.1 (by simp))
  ·exact (zo.1 (by simp))
 case makeMap t r=>cases r <;> rfl
 case slice t x l h m=>cases l <;> cases h <;> cases m <;> rfl
 case call c=>
  obtain ⟨g,args,i⟩:=c;have B:args.map (evE ρ)=(args.toList.map (evE ρ)).toArray:=zo.1 (by simp);cases g with
  | value f=>
   simp only [execOp,HY,fa,resolve,B]
  | builtin b=>
   have J:(args.map fun (x:Operand)=>(match x with|.const _=>true|_=>false))=(args.toList.map isC).toArray:=zo.1 (by
    simp only [Array.toList_map]
    congr 1)
   simp only [execOp,HY,bO,resolve,B];rw [<- J];rfl
  | invoke r m=>rfl

theorem stepE.run {P:Program} {o:Oper} {ρ:Env} {w:World} {K:Value->World->Prop} (h:stepE P o ρ w K):Run P (execOp (evE ρ) o) w K:=by
 rw [LY];obtain ⟨j,op,i,l,a,g⟩:=o;cases op <;> exact h
theorem Run.step {P:Program} {o:Oper} {ρ:Env} {w:World} {K:Value->World->Prop} (h:Run P (execOp (evE ρ) o) w K):stepE P o ρ w K:=by
 rw [LY] at h;obtain ⟨j,op,i,l,a,g⟩:=o;cases op <;> exact h
theorem Run.mono {P:Program} {s:Sem Next} {w:World} {K K':Value->World->Prop} (h:Run P s w K) (hk:∀ v w,K v w->K' v w) :
  Run P s w K':=by
 unfold Run at *;split at h
 ·exact hk _ _ h
 ·exact hk _ _ h
 ·exact Calls.mono h fun e w' a=>by cases e <;> first|exact hk _ _ a|exact a
 ·exact h.elim

theorem stepE.mono {P:Program} {o:Oper} {ρ:Env} {w:World} {K K':Value->World->Prop} (h:stepE P o ρ w K) (hk:∀ v w,K v w->K' v w) :
  stepE P o ρ w K':=Run.step (Run.mono h.run hk)

theorem Run.wp {P:Program} {n:Nat} {ρ:Env} {a:Act} {w:World} {o:Oper} {K:Value->World->Prop} {next:Act->World->Prop}
  {Q:Exit->Act->World->Prop} (i:Rel n ρ a) (j:Mc o.op=true) (l:o.op.operands.toList.all (Nb n)=true)
  (h:Run P (execOp (evE ρ) o) w K) (hk:∀ v w',K v w'->next (a.put o.dst v) w'):o.wp P a w next Q:=by
 unfold Oper.wp;rw [KM i j l];unfold Run at h;split at h
 ·rename_i e; rw [e]; exact hk _ _ h
 ·rename_i e; rw [e]; exact hk _ _ h
 ·rename_i e; rw [e]
  exact Calls.mono h fun e w' g=>by cases e <;> first|exact hk _ _ g|exact g.elim
 ·exact h.elim

theorem uh {n:Nat} {ρ:Env} {a:Act} (p:Rel n ρ a) {ops:Array Oper} {o:Oper} {A B:Prop}
  (i:mD n ops.toList o.guard=true) (h:GuardO ops.toList ρ o.guard A B) :
  (Region.wanted o (yielded ops a.tmps)=true/\A) ∨ (Region.wanted o (yielded ops a.tmps)=false/\B):=by
 unfold Region.wanted;cases l:o.guard with
 | none=>rw [l] at h; exact .inl ⟨rfl,h⟩
 | some g=>
  obtain ⟨j,b⟩:=g;rw [l] at h i;simp only [GuardO,mD,yielded,Array.getElem?_toList] at *;cases m:(ops[j]?).bind (·.dst) with
  | none=>rw [m] at i; simp at i
  | some d=>
   rw [m] at h i;simp only [bJ,Nat.blt_eq] at i;simp only [nH,p.at_ d i.1];simp only [aC] at h;split at h
   ·rename_i c hc
    rw [hc];split at h
    ·rename_i e; subst e; exact .inl ⟨by simp,h⟩
    ·rename_i e; exact .inr ⟨by simpa using e,h⟩
   ·rename_i q
    refine .inr ⟨?_,h⟩;cases hc:ρ d <;> first|exact absurd hc (q _)|simp

theorem wO {P:Program} {n:Nat} {ops:Array Oper} {o:Oper} {ρ:Env} {a:Act} {w:World} {K:Env->World->Prop}
  {next:Act->World->Prop} {Q:Exit->Act->World->Prop} {i:Nat} (l:ops[i]?=some o) (j:Rel n ρ a) (hf:lR n ops.toList o=true)
  (h:opE P ops.toList o ρ w K) (hk:∀ v w',K (rh ρ o.dst v) w'->next (a.put o.dst v) w') :
  wpOp P ops Q i next a w:=by
 simp only [lR,bJ] at hf;obtain ⟨⟨⟨m,u⟩,p⟩,q⟩:=hf;unfold wpOp;rw [l];simp only [];rcases uh j q h with ⟨g,r⟩|⟨g,t⟩
 ·rw [af g]; exact .inl (r.run.wp j m p hk)
 ·rw [ae (by simp [g])]; exact hk _ _ t

theorem pz (i m:Nat):List.range' i (m+1)=i::List.range' (i+1) m:=rfl

theorem kN {j d:Nat}:∀ (l:List Oper) (k:Nat),i6 j d k l=true->∀ i o,l[i]?=some o->k+i≠j->o.dst≠some d
 | [],_,_,i,o,hi,_=>by simp at hi
 | x::xs,k,h,i,o,hi,hne=>by
  simp only [i6,bJ,lQ,Nat.beq_eq,rn,beq_eq_false_iff_ne] at h;cases i with
  | zero=>
   simp only [DO,bh] at hi;subst hi;rcases h.1 with e|e
   ·exact absurd (by simpa using e) (by omega)
   ·exact e
  | succ i=>
   rw [lY] at hi;exact kN xs (k+1) h.2 i o hi (by omega)

theorem CA {g h:Option (Nat × Bool)}:jd g h=true↔g=h:=by
 cases g <;> cases h <;> simp [jd,Prod.ext_iff]

theorem xm (g:Option (Nat × Bool)):∀ l:List Oper,l=grp g l++lW g l
 | []=>rfl
 | o::os=>by
  simp only [grp,lW];cases h:jd g o.guard <;> simp;exact xm g os
theorem Mz (g:Option (Nat × Bool)):∀ (l:List Oper) (o:Oper),o∈grp g l->o.guard=g
 | [],_,h=>by simp [grp] at h
 | x::xs,o,h=>by
  simp only [grp] at h;cases e:jd g x.guard with
  | false=>rw [e] at h; simp at h
  | true=>
   rw [e] at h;rcases ek.1 h with rfl|h
   ·exact (CA.1 e).symm
   ·exact Mz g xs o h
theorem vF (g:Option (Nat × Bool)):∀ l:List Oper,(lW g l).length<=l.length
 | []=>by simp [lW]
 | x::xs=>by
  simp only [lW];cases jd g x.guard
  ·simp
  ·simpa using Nat.le_succ_of_le (vF g xs)

section ops
variable {P:Program} {n:Nat} {ops:Array Oper} {Q:Exit->Act->World->Prop}
def BJ (n:Nat) (ops:Array Oper):Prop:=∀ o∈ops.toList,lR n ops.toList o=true

theorem AJ (hf:BJ n ops) {j d:Nat} {b:Bool} (B:(ops.toList[j]?).bind (·.dst)=some d) :
  ∀ (l:List Oper) (i:Nat) (ρ:Env) (a:Act) (w:World) (K:Env->World->Prop) (g:List Nat),
   (∀ k o,l[k]?=some o->ops.toList[i+k]?=some o/\o.guard=some (j,b))->j<i->ρ d=.bool b->Rel n ρ a->M5 P l ρ w K->
   (∀ p O w',Rel n p O->K p w'->wpOps P ops Q g O w')->wpOps P ops Q (List.range' i l.length++g) a w
 | [],i,ρ,a,w,K,g,_,_,_,hr,h,hk=>hk _ _ _ hr h
 | o::os,i,ρ,a,w,K,g,hl,hji,hd,hr,h,hk=>by
  obtain ⟨u,N⟩:=hl 0 o rfl;rw [wU] at u;have Y:o∈ops.toList:=fj u;have q:=hf o Y;have G:ops[i]?=some o:=by simpa using u
  have m:=q;simp only [lR,bJ] at m;obtain ⟨⟨⟨Z,V⟩,h3⟩,D⟩:=m;have J:i6 j d 0 ops.toList=true:=by
   rw [N] at D; simp only [mD,B,bJ] at D; exact D.2
  have M:o.dst≠some d:=kN _ 0 J i o u (by omega);rw [aO,pz,dQ,wpOps_cons];refine wO (ρ:=ρ) (w:=w) (K:=fun p w'=>(p d=.bool b)/\M5 P os p w' K) G hr q ?_ ?_
  ·unfold opE;rw [N];simp only [GuardO,B,aC,hd,if_true];refine stepE.mono h fun v w' t=>⟨?_,t⟩
   cases r:o.dst with
   | none=>exact hd
   | some e=>rw [rh,pO]; exact hd; intro U; exact M (by rw [r,U])
  ·intro v w' t;exact AJ hf B os (i+1) _ _ w' K g (fun k o' C=>by
    have:=hl (k+1) o' (by simpa using C);rw [show i+1+k=i+(k+1) by omega]; exact this) (by omega) t.1 (hr.put V v) t.2 hk

theorem yB (hf:BJ n ops) {j d:Nat} {b:Bool} (r:(ops.toList[j]?).bind (·.dst)=some d) :
  ∀ (l:List Oper) (i:Nat) (ρ:Env) (a:Act) (w:World) (g:List Nat),
   (∀ k o,l[k]?=some o->ops.toList[i+k]?=some o/\o.guard=some (j,b))->j<i->ρ d≠.bool b->Rel n ρ a->
   (∀ M,Rel n (IY l ρ) M->wpOps P ops Q g M w)->wpOps P ops Q (List.range' i l.length++g) a w
 | [],i,ρ,a,w,g,_,_,_,hr,hk=>hk _ hr
 | o::os,i,ρ,a,w,g,hl,hji,hd,hr,hk=>by
  obtain ⟨q,J⟩:=hl 0 o rfl;rw [wU] at q;have U:o∈ops.toList:=fj q;have u:=hf o U;have B:ops[i]?=some o:=by simpa using q
  have h:=u;simp only [lR,bJ] at h;obtain ⟨⟨⟨h1,O⟩,h3⟩,m⟩:=h;have C:i6 j d 0 ops.toList=true:=by
   rw [J] at m; simp only [mD,r,bJ] at m; exact m.2
  have D:o.dst≠some d:=kN _ 0 C i o q (by omega);have G:rh ρ o.dst undef d=ρ d:=by
   cases p:o.dst with
   | none=>rfl
   | some e=>rw [rh,pO]; intro N; exact D (by rw [p,N])
  rw [aO,pz,dQ,wpOps_cons];have V:=m;have Y:GuardO ops.toList ρ o.guard False True:=by
   rw [J]; simp only [GuardO,r,aC];split
   ·rename_i c hc
    split
    ·rename_i e; subst e; exact absurd hc hd
    ·trivial
   ·trivial
  rcases uh hr m Y with ⟨_,Z⟩|⟨hw,_⟩
  ·exact Z.elim
  ·unfold wpOp;rw [B];simp only [hw,pQ,if_false];exact yB hf r os (i+1) _ _ w g (fun k o' t=>by
    have:=hl (k+1) o' (by simpa using t);rw [show i+1+k=i+(k+1) by omega]; exact this) (by omega) (by rw [G]; exact hd) (hr.put O undef) hk

theorem oy:∀ (l:List Oper) (k:Nat),jH k l=true->∀ i o j b,l[i]?=some o->o.guard=some (j,b)->j<k+i
 | [],_,_,i,o,_,_,hi,_=>by simp at hi
 | x::xs,k,h,i,o,j,b,hi,hg=>by
  simp only [jH,bJ] at h;cases i with
  | zero=>
   simp only [DO,bh] at hi;subst hi;have:=h.1;rw [hg] at this;simpa [Nat.blt_eq] using this
  | succ i=>
   rw [lY] at hi;have:=oy xs (k+1) h.2 i o j b hi hg;omega

theorem Ib (hf:BJ n ops) (hb:jH 0 ops.toList=true) :
  ∀ (m:Nat) (l:List Oper) (i:Nat) (ρ:Env) (a:Act) (w:World) (K:Env->World->Prop),l.length<m->
   ops.toList.drop i=l->Rel n ρ a->xD P ops.toList m l ρ w K->
   (∀ G J w',Rel n G J->K G w'->Q .normal J w')->wpOps P ops Q (List.range' i l.length) a w:=by
 intro m;induction m with
 | zero=>intro l i ρ a w K C; omega
 | succ m ih=>
  intro l i ρ a w K C hl O h hk;cases l with
  | nil=>exact hk _ _ _ O h
  | cons o os=>
   have r:∀ k,(o::os)[k]?=ops.toList[i+k]?:=fun k=>by rw [<- hl,xI]
   have h0:ops.toList[i]?=some o:=by have:=r 0; simpa using this.symm
   have hm:o∈ops.toList:=fj h0;have U:=hf o hm;have a0:ops[i]?=some o:=by simpa using h0
   have t:=U;simp only [lR,bJ] at t;obtain ⟨⟨⟨h1,h2⟩,h3⟩,h4⟩:=t;have a1:ops.toList.drop (i+1)=os:=by rw [<- G8,hl]; rfl
   simp only [xD] at h ih;cases M:o.guard with
   | none=>
    rw [M] at h;simp only [] at h;rw [aO,pz,wpOps_cons];refine wO (ρ:=ρ) (w:=w) (K:=fun G w'=>xD P ops.toList m os G w' K) a0 O U ?_ ?_
    ·unfold opE; rw [M]; exact h
    ·intro v w' hh;exact ih os (i+1) _ _ w' K (by simp at C; omega) a1 (O.put h2 v) hh hk
   | some g=>
    obtain ⟨j,b⟩:=g;rw [M] at h;simp only [] at h;have p:=xm (some (j,b)) os;have V:j<i:=by have:=oy _ 0 hb i o j b h0 M; omega
    obtain ⟨d,hj⟩:∃ d,(ops.toList[j]?).bind (·.dst)=some d:=by
     rw [M] at h4;simp only [mD] at h4;cases N:(ops.toList[j]?).bind (·.dst) with
     | none=>rw [N] at h4; simp at h4
     | some d=>exact ⟨d,rfl⟩
    have u:∀ k x,(o::grp (some (j,b)) os)[k]?=some x->ops.toList[i+k]?=some x/\x.guard=some (j,b):=by
     intro k x hx;have a2:(o::os)[k]?=some x:=by
      rw [p,<- dQ,Pf]
      ·exact hx
      ·exact (iu.1 hx).1
     refine ⟨by rw [<- r k]; exact a2,?_⟩;rcases ek.1 (fj hx) with rfl|Z
     ·exact M
     ·exact Mz _ _ _ Z
    have Y:(o::os).length=(o::grp (some (j,b)) os).length+(lW (some (j,b)) os).length:=by
     have:=congrArg List.length p;simp only [bv] at this;simp only [aO]; omega
    have q:ops.toList.drop (i+(o::grp (some (j,b)) os).length)=lW (some (j,b)) os:=by
     rw [<- G8,hl];have e:o::os=(o::grp (some (j,b)) os)++lW (some (j,b)) os:=by rw [dQ,<- p]
     rw [e,List.drop_left]
    have B:(lW (some (j,b)) os).length<m:=by
     have:=vF (some (j,b)) os;simp at C; omega
    rw [Y,<- List.range'_append_1];simp only [GuardO,hj] at h;by_cases N:ρ d=.bool b
    ·rw [N] at h;simp only [aC,if_true] at h;exact AJ hf hj _ i ρ a w _ _ u V N O h fun G J w' D hh=>ih _ _ G J w' K B q D hh hk
    ·have hB:xD P ops.toList m (lW (some (j,b)) os) (IY (o::grp (some (j,b)) os) ρ) w K:=by
      simp only [aC] at h;split at h
      ·rename_i c hc
       split at h
       ·rename_i e; subst e; exact absurd hc N
       ·exact h
      ·exact h
     exact yB hf hj _ i ρ a w _ u V N O fun J D=>ih _ _ _ J w K B q D hB hk

theorem sg:∀ (l:List Edge) {D:Nat->Bool} {p:Prop},rO l D p->(∀ e∈l,Region.binds .any e=true->D e.on=true)->p
 | [],_,_,h,_=>h
 | e::es,D,p,h,hd=>by
  simp only [rO] at h;cases i:Region.binds .any e with
  | false=>rw [i] at h; exact sg es h fun g a=>hd g (bV _ a)
  | true=>rw [i] at h; exact sg es (h (hd e (bL ..) i)) fun g a=>hd g (bV _ a)
theorem tE {D:Nat->Bool} {p:Prop}:∀ n:Nat,vJ n D p->(∀ i,i<n->D i=true)->p
 | 0,h,_=>h
 | n+1,h,hd=>tE n (h (hd n (KP n))) fun i a=>hd i (by omega)
def Lo (P:Program) (all:List Oper) (A:(Nat->Bool)->Env->World->Prop):Nat->List Oper->Prop
 | _,[]=>True
 | i,o::os=>(∀ D ρ w,D i=false->rO o.after.toList D (A D ρ w->opE P all o ρ w fun ρ' w'=>A (aE D i) ρ' w'))/\Lo P all A (i+1) os
theorem rH {A:(Nat->Bool)->Env->World->Prop} {all:List Oper}:∀ (l:List Oper) (k i:Nat) (o:Oper),Lo P all A k l->l[i]?=some o->
  ∀ D ρ w,D (k+i)=false->rO o.after.toList D (A D ρ w->opE P all o ρ w fun a w'=>A (aE D (k+i)) a w')
 | [],_,i,_,_,hi=>by simp at hi
 | x::xs,k,0,o,h,hi=>by
  simp only [DO,bh] at hi;subst hi;exact h.1
 | x::xs,k,i+1,o,h,hi=>by
  rw [lY] at hi;have:=rH xs (k+1) i o h.2 hi;rw [show k+1+i=k+(i+1) by omega] at this;exact this
theorem EF:∀ (l:List Edge) {i:Nat},Ly i l=true->∀ e∈l,Region.binds .any e=true->e.on<i
 | [],_,_,e,a=>by simp at a
 | x::xs,i,h,e,a=>by
  simp only [Ly,bJ,lQ,rn,Nat.blt_eq] at h;rcases ek.1 a with rfl|a
  ·intro j;rcases h.1 with g|g
   ·rw [g] at j; cases j
   ·exact g
  ·exact EF xs h.2 e a
theorem ED:∀ (l:List Oper) (k:Nat),zQ k l=true->∀ i o,l[i]?=some o->∀ e∈o.after.toList,Region.binds .any e=true->e.on<k+i
 | [],_,_,i,o,hi=>by simp at hi
 | x::xs,k,h,i,o,hi=>by
  simp only [zQ,bJ] at h;cases i with
  | zero=>
   simp only [DO,bh] at hi;subst hi;exact fun e a=>EF _ h.1 e a
  | succ i=>
   rw [lY] at hi;intro e a g;have:=ED xs (k+1) h.2 i o hi e a g;omega

theorem wH {ops:Array Oper} {a:Array Bool} {i:Nat}:i∈Region.ready .any ops a ↔
  i<ops.size/\a.getD i true=false/\∃ o,ops[i]?=some o/\∀ e∈o.after.toList,Region.binds .any e=true->a.getD e.on false=true:=by
 simp only [Region.ready,List.mem_filter,List.mem_range,bJ,rn];constructor
 ·rintro ⟨g,l,h⟩;refine ⟨g,l,ops[i],by simp [g],fun e p j=>?_⟩;simp only [g,getElem?_pos,la,JF,Array.all_eq_true] at h;obtain ⟨k,hk,rfl⟩:=Ov p;have:=h k (by simpa using hk);simp only [Array.getElem_toList] at j ⊢;rw [j] at this;simpa using this
 ·rintro ⟨g,l,o,m,h⟩;refine ⟨g,l,?_⟩;rw [m];simp only [la,JF,Array.all_eq_true];intro k hk;cases j:Region.binds .any (o.after[k]) with
  | false=>simp
  | true=>simpa using h _ (by simp) j

theorem K9 {ops:Array Oper} {a:Array Bool} (o:a.size=ops.size) (p:zQ 0 ops.toList=true)
  (h:Region.ready .any ops a=[]):∀ i,i<ops.size->a.getD i false=true:=by
 intro i;induction i using Nat.strongRecOn with
 | _ i r=>
  intro g;by_cases m:a.getD i false=true
  ·exact m
  ·exfalso;have l:i<a.size:=by omega
   have:i∈Region.ready .any ops a:=by
    rw [wH];refine ⟨g,?_,ops[i],by simp [g],fun e q j=>?_⟩
    ·simpa [Array.getD_eq_getD_getElem?,l] using m
    ·have:=ED _ 0 p i ops[i] (by simp [g]) e q j;exact r e.on (by omega) (by omega)
   rw [h] at this;simp at this

theorem NJ {a:Array Bool} {i:Nat} (g:i<a.size) (j:Nat) :
  (a.setIfInBounds i true).getD j false=aE (fun j=>a.getD j false) i j:=by
 simp only [aE,Array.getD_eq_getD_getElem?];by_cases e:j=i
 ·subst e;simp [g]
 ·rw [PN (by omega)];simp [e]

theorem Kc (hf:BJ n ops) (hb:zQ 0 ops.toList=true) {A:(Nat->Bool)->Env->World->Prop}
  (hA:Lo P ops.toList A 0 ops.toList) 
  (hQ:∀ D ρ a w,Rel n ρ a->(∀ i,i<ops.size->D i=true)->A D ρ w->Q .normal a w) :
  ∀ (m:Nat) (g:Array Bool) (ρ:Env) (a:Act) (w:World),g.size=ops.size->Rel n ρ a->A (fun j=>g.getD j false) ρ w->
   (∀ k,k+m=ops.size->k<=(g.toList.filter id).length)->
   wpAny P .any ops Q m g a w:=by
 intro m;induction m with
 | zero=>
  intro g ρ a w u G h l;have hc:=l ops.size (by omega);have t:∀ i,i<ops.size->g.getD i false=true:=by
   intro i O;have a3:(g.toList.filter id).length<=g.toList.length:=List.length_filter_le _ _;have Y:(g.toList.filter id).length=g.toList.length:=by simp at *; omega
   have:=(List.length_filter_eq_length_iff.1 Y) (g[i]) (by simp)
   simpa [Array.getD_eq_getD_getElem?,show i<g.size by omega] using this
  refine ⟨?_,hQ _ ρ a w G t h⟩;cases a1:Region.ready .any ops g with
  | nil=>rfl
  | cons x xs=>
   have Z:x∈Region.ready .any ops g:=by rw [a1]; simp
   rw [wH] at Z;have h1:=t x Z.1;have M:=Z.2.1;have a0:x<g.size:=by omega
   simp [Array.getD_eq_getD_getElem?,a0] at h1 M;rw [h1] at M; simp at M
 | succ m ih=>
  intro g ρ a w u G h l;refine ⟨fun J=>hQ _ ρ a w G (K9 u hb J) h,fun i O=>?_⟩;rw [wH] at O;obtain ⟨a2,U,o,ho,V⟩:=O;have q:i<g.size:=by omega
  have hD:g.getD i false=false:=by
   simpa [Array.getD_eq_getD_getElem?,q] using U
  have N:ops.toList[i]?=some o:=by simpa using ho
  have p:=rH ops.toList 0 i o hA N (fun j=>g.getD j false) ρ w (by simpa using hD);rw [df] at p;have r:=sg _ p V h;have B:=hf o (fj N);have M:F5 n o.dst=true:=by
   simp only [lR,bJ] at B; exact B.1.1.2
  refine wO ho G B r fun v w' hh=>?_;refine ih _ _ _ _ (by simpa using u) (G.put M v) (by rw [show (fun j=>(g.setIfInBounds i true).getD j false)=aE (fun j=>g.getD j false) i from funext (NJ q)]; exact hh) ?_;intro k hk;have hc:=l (k - 1);have:(g.toList.filter id).length+1<=((g.setIfInBounds i true).toList.filter id).length:=by
   have C:(g.setIfInBounds i true).toList=g.toList.set i true:=by simp
   rw [C];have hg:g.toList[i]?=some false:=by
    have:g[i]?=some false:=by
     simp [Array.getD_eq_getD_getElem?,q] at hD;simp [q,hD]
    simpa using this
   exact aux i _ hg
  by_cases a4:k=0
  ·omega
  ·have:=hc (by omega);omega
where
 aux:∀ (i:Nat) (xs:List Bool),xs[i]?=some false->(xs.filter id).length+1<=((xs.set i true).filter id).length
  | i,[],h=>by simp at h
  | 0,x::xs,h=>by simp at h; subst h; simp
  | i+1,x::xs,h=>by
   simp only [lY] at h;have:=aux i xs h;simp only [List.set_cons_succ,List.filter_cons];split <;> simp <;> omega
end ops
end
section
open Go

def Wo (l:List Oper) (t:Nat):Prop:=∃ o∈l,o.dst=some t
def Wc:Code->Nat->Prop
 | .region _ ops _,t=>Wo ops.toList t
 | .seq a b,t|.cond _ a b,t=>Wc a t ∨ Wc b t
 | .block _ a,t|.loop a,t|.scope a,t=>Wc a t
 | _,_=>False

theorem kC {t:Nat}:∀ (ops:List Oper) (l:List Nat),t∈na ops l↔t∈l ∨ Wo ops t
 | [],l=>by simp [na,Wo]
 | o::os,l=>by
  simp only [na];cases a:o.dst with
  | none=>
   rw [kC os l];simp [Wo,a]
  | some d=>
   simp only [];cases i:l.elem d with
   | true=>
    have g:d∈l:=by simpa using i
    simp only [];rw [kC os l];simp only [Wo,ek,exists_eq_or_imp,a,bh];constructor
    ·rintro (h|h)
     ·exact .inl h
     ·exact .inr (.inr h)
    ·rintro (h|h|h)
     ·exact .inl h
     ·subst h; exact .inl g
     ·exact .inr h
   | false=>
    simp only [];rw [kC os (d::l)];simp only [Wo,ek,exists_eq_or_imp,a,bh];constructor
    ·rintro ((h|h)|h)
     ·exact .inr (.inl h.symm)
     ·exact .inl h
     ·exact .inr (.inr h)
    ·rintro (h|h|h)
     ·exact .inl (.inr h)
     ·exact .inl (.inl h.symm)
     ·exact .inr h

theorem kT {t:Nat}:∀ (c:Code) (l:List Nat),t∈wr c l↔t∈l ∨ Wc c t
 | .region _ ops _,l=>kC ops.toList l
 | .seq a b,l=>by simp only [wr,Wc]; rw [kT b,kT a,or_assoc]
 | .cond _ a b,l=>by simp only [wr,Wc]; rw [kT b,kT a,or_assoc]
 | .block _ a,l=>by simp only [wr,Wc]; exact kT a l
 | .loop a,l=>by simp only [wr,Wc]; exact kT a l
 | .scope a,l=>by simp only [wr,Wc]; exact kT a l
 | .skip,l|.ret,l|.exit _,l|.label _,l|.goto _,l|.refuse _,l|.rangeFunc ..,l=>by simp [wr,Wc]

def Agr (W:Nat->Prop) (ρ ρ':Env):Prop:=∀ t,¬ W t->ρ' t=ρ t
theorem Agr.refl (W:Nat->Prop) (ρ:Env):Agr W ρ ρ:=fun _ _=>rfl
theorem Agr.trans {W:Nat->Prop} {ρ g a:Env} (h:Agr W ρ g) (j:Agr W g a):Agr W ρ a:=fun t i=>(j t i).trans (h t i)
theorem Agr.mono {W W':Nat->Prop} {ρ a:Env} (h:Agr W ρ a) (g:∀ t,W t->W' t):Agr W' ρ a:=fun t i=>h t fun j=>i (g t j)
theorem Agr.put {W:Nat->Prop} (ρ:Env) (a:Option Nat) (v:Value) (h:∀ d,a=some d->W d):Agr W ρ (rh ρ a v):=by
 cases a with
 | none=>exact Agr.refl _ _
 | some d=>exact fun t g=>pO ρ v fun e=>g (e ▸ h d rfl)

theorem fe:∀ (l:List Nat) (ρ:Env) (p:Env->Prop),kj l ρ p->∀ a,(∀ t,t ∉ l->a t=ρ t)->p a
 | [],ρ,p,h,a,e=>by have:a=ρ:=funext fun t=>e t (by simp); rw [this]; exact h
 | m::l,ρ,p,h,a,e=>by
  refine fe l (upd ρ m (a m)) p (h (a m)) a fun t i=>?_;by_cases g:t=m
  ·subst g; rw [Aa]
  ·rw [pO _ _ g]; exact e t (by simp [g,i])
theorem jg:∀ (l:List Nat) (ρ:Env) (p:Env->Prop),(∀ a,(∀ t,t ∉ l->a t=ρ t)->p a)->kj l ρ p
 | [],ρ,p,h=>h ρ fun _ _=>rfl
 | m::l,ρ,p,h=>fun x=>jg l _ p fun a e=>h a fun t j=>by
   have i:t≠m:=fun g=>j (by rw [g]; exact bL ..);rw [e t (fun g=>j (bV _ g)),pO _ _ i]

theorem GuardO.mono {ops:List Oper} {ρ:Env} {g:Option (Nat × Bool)} {A B A' B':Prop} (h:GuardO ops ρ g A B) (l:A->A') (a:B->B') :
  GuardO ops ρ g A' B':=by
 unfold GuardO aC at *;split
 ·exact l h
 ·rename_i j b
  simp only [] at h;split
  ·rename_i d i
   rw [i] at h;simp only [] at h;split
   ·rename_i c hc
    rw [hc] at h;simp only [] at h;split
    ·rename_i e; rw [af e] at h; exact l h
    ·rename_i e; rw [ae e] at h; exact a h
   ·rename_i m
    split at h
    ·rename_i c hc; exact absurd hc (m c)
    ·exact a h
  ·rename_i i
   rw [i] at h;exact a h

section mono
variable {P:Program}
theorem EG:∀ (l:List Oper) (ρ:Env) (w:World) (K K':Env->World->Prop),M5 P l ρ w K->
  (∀ a w',Agr (Wo l) ρ a->K a w'->K' a w')->M5 P l ρ w K'
 | [],ρ,w,K,K',h,hk=>hk _ _ (Agr.refl _ _) h
 | o::os,ρ,w,K,K',h,hk=>by
  refine stepE.mono h fun v w' i=>EG os _ w' K K' i fun a g j=>hk a g ?_;exact (Agr.put ρ o.dst v fun d m=>⟨o,bL ..,m⟩).trans
   (j.mono fun t ⟨o',p,q⟩=>⟨o',bV _ p,q⟩)
theorem Eg:∀ (l:List Oper) (ρ:Env),Agr (Wo l) ρ (IY l ρ)
 | [],_=>Agr.refl _ _
 | o::os,ρ=>(Agr.put ρ o.dst undef fun _ a=>⟨o,bL ..,a⟩).trans
   ((Eg os _).mono fun _ ⟨o',g,h⟩=>⟨o',bV _ g,h⟩)

theorem Jx {all:List Oper}:∀ (m:Nat) (l:List Oper) (ρ:Env) (w:World) (K K':Env->World->Prop),xD P all m l ρ w K->
  (∀ p w',Agr (Wo l) ρ p->K p w'->K' p w')->xD P all m l ρ w K':=by
 intro m;induction m with
 | zero=>intro l ρ w K K' h; exact h.elim
 | succ m B=>
  intro l ρ w K K' h hk;cases l with
  | nil=>exact hk _ _ (Agr.refl _ _) h
  | cons o os=>
   simp only [xD] at h B ⊢;cases N:o.guard with
   | none=>
    rw [N] at h;simp only [] at h ⊢;refine stepE.mono h fun v w' q=>B os _ w' K K' q fun p a C=>hk p a ?_;exact (Agr.put ρ o.dst v fun d O=>⟨o,bL ..,O⟩).trans
     (C.mono fun t ⟨o',r,u⟩=>⟨o',bV _ r,u⟩)
   | some g=>
    rw [N] at h;simp only [] at h ⊢;have G:=xm (some g) os;have J:∀ t,Wo (o::grp (some g) os) t->Wo (o::os) t:=fun t ⟨o',r,u⟩=>⟨o',by
     rw [G,<- dQ]; exact ic _ r,u⟩
    have M:∀ t,Wo (lW (some g) os) t->Wo (o::os) t:=fun t ⟨o',r,u⟩=>⟨o',by
     rw [G,<- dQ]; exact iW _ r,u⟩
    refine GuardO.mono h (fun q=>?_) (fun q=>?_)
    ·refine EG _ _ _ _ _ q fun p w' C D=>B _ _ _ K K' D fun i a j=>hk i a ?_;exact (C.mono J).trans (j.mono M)
    ·refine B _ _ _ K K' q fun i a j=>hk i a ?_;exact ((Eg _ _).mono J).trans (j.mono M)

theorem sL:∀ (l:List Edge) {D:Nat->Bool} {p q:Prop},rO l D p->(p->q)->rO l D q
 | [],_,_,_,h,hq=>hq h
 | e::es,D,p,q,h,hq=>by
  simp only [rO] at h ⊢;cases a:Region.binds .any e with
  | false=>rw [a] at h; exact sL es h hq
  | true=>rw [a] at h; exact fun g=>sL es (h g) hq
theorem uY {D:Nat->Bool} {p q:Prop}:∀ n:Nat,vJ n D p->(p->q)->vJ n D q
 | 0,h,hq=>hq h
 | n+1,h,hq=>fun a=>uY n (h a) hq
theorem Oc {all:List Oper} {o:Oper} {ρ:Env} {w:World} {K K':Env->World->Prop} (h:opE P all o ρ w K)
  (hk:∀ v w',K (rh ρ o.dst v) w'->K' (rh ρ o.dst v) w'):opE P all o ρ w K':=
 GuardO.mono h (fun a=>stepE.mono a fun v w'=>hk v w') (hk _ _)
theorem FC:∀ (l:List Nat) (ρ:Env) {p q:Env->Prop},kj l ρ p->(∀ a,(∀ t,t ∉ l->a t=ρ t)->p a->q a)->kj l ρ q:=
 fun l ρ p _ h g=>jg l ρ _ fun a e=>g a e (fe l ρ p h a e)
theorem G3 {ops:List Oper} {ρ:Env} {w:World} {K K':Env->World->Prop} (h:Lb P ops ρ w K)
  (hk:∀ a w',Agr (Wo ops) ρ a->K a w'->K' a w'):Lb P ops ρ w K':=by
 obtain ⟨A,p,q,r⟩:=h;refine ⟨A,p,q,fun D=>?_⟩;refine uY _ (r D) fun i=>FC _ _ i fun a g j w' l=>hk a w' (fun t m=>g t fun o=>m ?_) (j w' l);exact ((kC ops []).1 o).resolve_left (by simp)
theorem rN {all:List Oper} {M:List Nat} {A:(Nat->Bool)->Cur (World->Prop) M} {ρ:Env} (p:∀ t,Wo all t->t∈M):∀ (l:List Oper) (i:Nat),(∀ t,Wo l t->Wo all t)->
  xf P all M A ρ i l->Lo P all (fun D a w'=>ap M (A D) a w'/\Agr (Wo all) ρ a) i l
 | [],_,_,_=>trivial
 | o::os,i,hw,h=>by
  refine ⟨fun D a w' q=>?_,rN p os (i+1) (fun t ⟨o',g,r⟩=>hw t ⟨o',bV _ g,r⟩) h.2⟩;refine sL _ (h.1 D q) fun u j=>?_;have g:=fe _ _ _ u a (fun t B=>j.2 t fun m=>B (p t m)) w' j.1;exact Oc g fun v C G=>⟨G,j.2.trans (Agr.put a o.dst v fun d J=>hw d ⟨o,bL ..,J⟩)⟩

theorem CondV.mono {v:Value} {A B A' B':Prop} (h:CondV v A B) (a:A->A') (g:B->B'):CondV v A' B':=by
 unfold CondV at *;split
 ·rename_i c
  simp only [] at h;split
  ·rename_i e; rw [af e] at h; exact a h
  ·rename_i e; rw [ae e] at h; exact g h
 ·rename_i i
  split at h
  ·rename_i c; exact absurd rfl (i c)
  ·exact h

theorem jE {K K':Env->World->Prop} {Q Q':Exit->Env->World->Prop} {ρ:Env} {w:World} (hk:K ρ w->K' ρ w)
  (a:∀ e,Q e ρ w->Q' e ρ w):∀ e,yr K Q e ρ w->yr K' Q' e ρ w:=by
 intro e;cases e <;> first|exact hk|exact a _

theorem jo:∀ (c:Code) (l:An) (Q Q':Exit->Env->World->Prop) (ρ:Env) (w:World),vc P c l Q ρ w->
  (∀ e g w',Agr (Wc c) ρ g->Q e g w'->Q' e g w')->vc P c l Q' ρ w
 | .skip,l,Q,Q',ρ,w,h,hq=>hq _ _ _ (Agr.refl _ _) h
 | .ret,l,Q,Q',ρ,w,h,hq=>hq _ _ _ (Agr.refl _ _) h
 | .exit id,l,Q,Q',ρ,w,h,hq=>hq _ _ _ (Agr.refl _ _) h
 | .region id ops draw,l,Q,Q',ρ,w,h,hq=>by
  simp only [vc] at h ⊢;cases draw with
  | true=>exact G3 h fun g w' i=>hq _ g w' i
  | false=>exact Jx _ _ _ _ _ _ (by simpa only [cond_false] using h) fun g w' i=>hq _ g w' i
 | .seq a b,l,Q,Q',ρ,w,h,hq=>by
  simp only [vc] at h ⊢;cases hc:l.cut with
  | none=>
   rw [hc] at h;simp only [] at h ⊢;refine jo a _ _ _ ρ w h fun e g w' i=>?_;refine jE (fun j=>?_) (fun r j=>hq r g w' (i.mono fun t=>.inl) j) e;exact jo b _ _ _ g w' j fun r m o p=>hq r m o ((i.mono fun t=>.inl).trans (p.mono fun t=>.inr))
  | some U=>
   rw [hc] at h;simp only [] at h ⊢;obtain ⟨J,C,D⟩:=h;refine ⟨J,?_,?_⟩
   ·refine jo a _ _ _ ρ w C fun e g w' i=>?_;exact jE id (fun r j=>hq r g w' (i.mono fun t=>.inl) j) e
   ·refine jg _ _ _ fun g q w' M=>?_;have i:Agr (Wc a) ρ g:=fun t u=>q t fun B=>u (((kT a []).1 B).resolve_left (by simp));exact jo b _ _ _ g w' (fe _ _ _ D g q w' M) fun r m o p=>
     hq r m o ((i.mono fun t=>.inl).trans (p.mono fun t=>.inr))
 | .cond x a b,l,Q,Q',ρ,w,h,hq=>by
  simp only [vc] at h ⊢;exact CondV.mono h (fun j=>jo a _ _ _ ρ w j fun e g w' i=>hq e g w' (i.mono fun t=>.inl))
   (fun j=>jo b _ _ _ ρ w j fun e g w' i=>hq e g w' (i.mono fun t=>.inr))
 | .block id a,l,Q,Q',ρ,w,h,hq=>by
  simp only [vc] at h ⊢;refine jo a _ _ _ ρ w h fun e g w' i j=>?_;cases e with
  | exit G=>
   simp only [La] at j ⊢;cases O:Nat.beq G id <;> rw [O] at j <;> exact hq _ g w' i j
  | _=>exact hq _ g w' i j
 | .loop a,l,Q,Q',ρ,w,h,hq=>by
  simp only [vc] at h ⊢;obtain ⟨I,μ,C,D⟩:=h;refine ⟨I,μ,C,jg _ _ _ fun g q w' N=>?_⟩;have i:Agr (Wc a) ρ g:=fun t u=>q t fun B=>u (((kT a []).1 B).resolve_left (by simp));refine jo a _ _ _ g w' (fe _ _ _ D g q w' N) fun e m o p=>?_;exact jE id (fun r j=>hq r m o (i.trans p) j) e
 | .scope ..,_,_,_,_,_,h,_|.label ..,_,_,_,_,_,h,_|.goto ..,_,_,_,_,_,h,_|.refuse ..,_,_,_,_,_,h,_
 | .rangeFunc ..,_,_,_,_,_,h,_=>h.elim
end mono

def EC (a:Act):Env:=fun t=>a.tmps.getD t undef
theorem Rel.env {n:Nat} {ρ:Env} {a:Act} (h:Rel n ρ a):ρ=EC a:=by
 funext t
 by_cases g:t<n
 ·simp [EC,Array.getD_eq_getD_getElem?,h.at_ t g]
 ·rw [h.out t (by omega)];simp [EC,Array.getD_eq_getD_getElem?,h.size,show ¬ t<n from g]

section sound
variable {P:Program} {n:Nat}
def post (n:Nat) (Q:Exit->Env->World->Prop):Exit->Act->World->Prop:=fun e a w=>∃ ρ,Rel n ρ a/\Q e ρ w

theorem vW {K:Env->World->Prop} {Q:Exit->Env->World->Prop} {next:Act->World->Prop} {Q':Exit->Act->World->Prop} {a:Act} {w:World}
  (hk:∀ ρ,Rel n ρ a->K ρ w->next a w) (i:∀ e ρ,Rel n ρ a->Q e ρ w->Q' e a w):∀ e,post n (yr K Q) e a w->Exit.then next Q' e a w:=by
 rintro e ⟨ρ,g,h⟩;cases e <;> first|exact hk ρ g h|exact i _ ρ g h

theorem iD (B:P.follows .mixedOrders=true):∀ (c:Code) (q:An) (Q:Exit->Env->World->Prop) (ρ:Env) (w:World) (a:Act),Rel n ρ a->
  vV n c=true->vc P c q Q ρ w->c.wp P (post n Q) a w
 | .skip,q,Q,ρ,w,a,hr,_,h=>wp_skip ⟨ρ,hr,h⟩
 | .ret,q,Q,ρ,w,a,hr,_,h=>wp_ret ⟨ρ,hr,h⟩
 | .exit id,q,Q,ρ,w,a,hr,_,h=>wp_exit ⟨ρ,hr,h⟩
 | .region id ops draw,q,Q,ρ,w,a,hr,hf,h=>by
  simp only [vV,bJ,lQ,rn] at hf;obtain ⟨⟨a0,a1⟩,a2⟩:=hf;have Y:BJ n ops:=fun o ho=>fS.1 a0 o ho;simp only [vc] at h;cases draw with
  | true=>
   obtain ⟨A,U,V,h3⟩:=h;have hb:zQ 0 ops.toList=true:=by simpa using a2
   refine wp_region_any B ?_;have hW:∀ t,Wo ops.toList t->t∈na ops.toList []:=fun t C=>(kC _ _).2 (.inr C);refine Kc Y hb (rN hW _ 0 (fun _ h=>h) V) ?_ _ _ ρ a _ (by simp) hr ?_ ?_
   ·intro D l u w' g hD hA;have h4:=tE _ (h3 D) (fun i hi=>hD i (by simpa using hi));exact ⟨l,g,fe _ _ _ h4 l (fun t C=>hA.2 t fun O=>C (hW t O)) w' hA.1⟩
   ·have:(fun j=>(Array.replicate ops.size false).getD j false)=fun _=>false:=by
     funext j
     simp only [Array.getD_eq_getD_getElem?,Array.getElem?_replicate];split <;> rfl
    rw [this]; exact ⟨U,Agr.refl _ _⟩
   ·intro k hk; omega
  | false=>
   refine wp_region ?_;have:=Ib (Q:=post n Q) Y a1 _ ops.toList 0 ρ a w _ (KP _) rfl hr h fun l u w' g m=>⟨l,g,m⟩
   simpa [List.range_eq_range'] using this
 | .seq x y,q,Q,ρ,w,a,hr,hf,h=>by
  simp only [vV,bJ] at hf;simp only [vc] at h;cases hc:q.cut with
  | none=>
   rw [hc] at h;simp only [] at h;refine wp_seq (wp_mono (iD B x _ _ ρ w a hr hf.1 h) fun e u w'=>?_);exact vW (fun l g m=>iD B y _ _ l w' u g hf.2 m) (fun e' l g m=>⟨l,g,m⟩) e
  | some lv=>
   rw [hc] at h;simp only [] at h;obtain ⟨J,U,V⟩:=h;have a3:=jo x _ _ (yr (fun l w'=>ap lv J l w'/\Agr (Wc x) ρ l) Q) ρ w U fun e l w' Z=>
    jE (fun m=>⟨m,Z⟩) (fun _=>id) e
   refine wp_seq (wp_mono (iD B x _ _ ρ w a hr hf.1 a3) fun e u w'=>?_);refine vW (fun l g m=>?_) (fun e' l g m=>⟨l,g,m⟩) e;refine iD B y _ _ l w' u g hf.2 (fe _ _ _ V l (fun t C=>m.2 t fun O=>C ?_) w' m.1);exact (kT x []).2 (.inr O)
 | .cond x c d,q,Q,ρ,w,a,hr,hf,h=>by
  simp only [vV,bJ] at hf;simp only [vc] at h;have he:=hr.eval hf.1.1;unfold CondV at h;split at h
  ·rename_i t C
   rw [C] at he;refine wp_cond he ?_;split at h
   ·rename_i e; rw [af e]; exact iD B c _ _ ρ w a hr hf.1.2 h
   ·rename_i e; rw [ae e]; exact iD B d _ _ ρ w a hr hf.2 h
  ·exact h.elim
 | .block id c,q,Q,ρ,w,a,hr,hf,h=>by
  simp only [vV] at hf;simp only [vc] at h;refine wp_block (wp_mono (iD B c _ _ ρ w a hr hf h) fun e u w'=>?_);rintro ⟨l,g,m⟩;cases e with
  | exit M=>
   simp only [La] at m;simp only [Exit.inBlock];by_cases e:M=id
   ·have:Nat.beq M id=true:=by simpa using e
    rw [this] at m;rw [af e]; exact ⟨l,g,m⟩
   ·have:Nat.beq M id=false:=by simpa [<- Bool.not_eq_true] using e
    rw [this] at m;rw [ae e]; exact ⟨l,g,m⟩
  | _=>exact ⟨l,g,m⟩
 | .loop c,q,Q,ρ,w,a,hr,hf,h=>by
  simp only [vV] at hf;simp only [vc] at h;obtain ⟨I,μ,U,V⟩:=h;refine wp_loop (fun u w'=>∃ l,Rel n l u/\Agr (Wc c) ρ l/\ap q.live I l w') (fun u w'=>ap q.live μ (EC u) w')
   ⟨ρ,hr,Agr.refl _ _,U⟩ ?_
  rintro u w' ⟨l,g,N,hI⟩;have a4:=fe _ _ _ V l (fun t C=>N t fun O=>C ((kT c []).2 (.inr O))) w' hI;have h3:=jo c _ _ (yr (fun p G=>(ap q.live I p G/\ap q.live μ p G<ap q.live μ l w')/\Agr (Wc c) l p) Q) l w' a4
   fun e p G Z=>jE (fun m=>⟨m,Z⟩) (fun _=>id) e
  refine wp_mono (iD B c _ _ l w' u g hf h3) fun e a5 G=>?_;refine vW (fun p r m=>⟨⟨p,r,N.trans m.2,m.1.1⟩,?_⟩) (fun e' p r m=>⟨p,r,m⟩) e;rw [<- r.env,<- g.env];exact m.1.2
 | .scope ..,_,_,_,_,_,_,_,h|.label ..,_,_,_,_,_,_,_,h|.goto ..,_,_,_,_,_,_,_,h|.refuse ..,_,_,_,_,_,_,_,h
 | .rangeFunc ..,_,_,_,_,_,_,_,h=>h.elim
end sound

def aU (P:Program) (T:TypeId) (p:Value) (w:World) (K:Value->Prop):Prop:=
 ∃ v,(do loadVar T (<- asAddr p):Sem Value).run P w=.ok v w/\K v
def PT (P:Program):List ResultVar->Env->World->(List Value->Prop)->Prop
 | [],_,_,K=>K []
 | .tmp t::rs,ρ,w,K=>PT P rs ρ w fun vs=>K (ρ t::vs)
 | .cell t T::rs,ρ,w,K=>aU P T (ρ t) w fun v=>PT P rs ρ w fun vs=>K (v::vs)
def QK:List Value->Value
 | [v]=>v
 | vs=>.tuple vs.toArray
def SI (P:Program) (rs:List ResultVar) (ρ:Env) (w:World) (R:Ending->World->Prop):Prop:=
 PT P rs ρ w fun vs=>R (.returned (QK vs)) w
def IB (P:Program) (rs:List ResultVar) (R:Ending->World->Prop):Exit->Env->World->Prop
 | .normal,ρ,w|.ret,ρ,w=>SI P rs ρ w R
 | _,_,_=>False

def Qo (tmps:Array Value):ResultVar->Sem Value
 | .tmp t=>pure (tmps.getD t undef)
 | .cell t T=>do loadVar T (<- asAddr (tmps.getD t undef))
theorem Kx (fn:Func) (tmps:Array Value):results fn tmps=(do
  let vs <- fn.results.mapM (Qo tmps)
  pure (if h:vs.size=1 then vs[0] else .tuple vs)):=by
 unfold results
 congr 2
theorem Ca {P:Program} {a:Act} {w:World}:∀ (g:List ResultVar) (K:List Value->Prop),PT P g (EC a) w K->
  ∃ vs,(g.mapM (Qo a.tmps)).run P w=.ok vs w/\vs.length=g.length/\K vs
 | [],K,h=>⟨[],by simp,rfl,h⟩
 | .tmp t::g,K,h=>by
  obtain ⟨vs,i,j,l⟩:=Ca g _ h;refine ⟨_::vs,?_,by simp [j],l⟩;rw [List.mapM_cons];simp only [Sem.run_bind,Qo,Sem.run_pure,Result.andThen_ok,i];rfl
 | .cell t T::g,K,h=>by
  obtain ⟨v,o,h⟩:=h;obtain ⟨vs,i,j,l⟩:=Ca g _ h;refine ⟨v::vs,?_,by simp [j],l⟩;rw [List.mapM_cons];have m:(Qo a.tmps (.cell t T)).run P w=.ok v w:=o;simp only [Sem.run_bind,m,Result.andThen_ok,i,Sem.run_pure]

theorem yL {P:Program} {fn:Func} {a:Act} {w:World} {R:Ending->World->Prop}
  (h:SI P fn.results.toList (EC a) w R):∃ v,(results fn a.tmps).run P w=.ok v w/\R (.returned v) w:=by
 obtain ⟨vs,g,j,i⟩:=Ca fn.results.toList _ h;refine ⟨_,?_,i⟩;rw [Kx,Array.mapM_eq_mapM_toList];simp only [Sem.run_bind,Sem.run_map,g,Result.andThen_ok,Sem.run_pure]
 congr 1
 match vs with
 | []=>simp [QK]
 | [v]=>simp [QK]
 | v::u::r=>simp [QK]

def mQ:Nat->List Value->Env->Env
 | _,[],ρ=>ρ
 | k,v::vs,ρ=>mQ (k+1) vs (upd ρ k v)
theorem Cf:∀ (l:List Value) (k:Nat) (ρ:Env) (t:Nat),mQ k l ρ t=if k<=t/\t<k+l.length then (l[t - k]?).getD undef else ρ t
 | [],k,ρ,t=>by simp [mQ]; intro a g; omega
 | v::vs,k,ρ,t=>by
  rw [mQ,Cf vs (k+1) _ t];by_cases h:t=k
  ·subst h;rw [ae (by omega),af (by simp),Aa];simp
  ·rw [pO _ _ h];by_cases a:k+1<=t/\t<k+1+vs.length
   ·rw [af a,af (by simp; omega)];rw [show t - k=(t - (k+1))+1 by omega,lY]
   ·rw [ae a,ae (by simp; omega)]

theorem HR {P:Program} {f:FuncId} {fn:Func} {c:Code} {n:Nat} (m:An) {args:List Value} {w:World} {R:Ending->World->Prop}
  (o:P.follows .mixedOrders=true) (hf:P.funcs[f]?=some fn) (p:fn.body=some c) (hn:fn.ntmps=n) (q:Nat.ble args.length n=true)
  (g:vV n c=true) (h:vc P c m (IB P fn.results.toList R) (mQ 0 args fun _=>undef) w):Calls P f args.toArray w R:=by
 have u:args.length<=n:=Ce q;refine calls_of_wp hf p ?_;have B:Rel n (mQ 0 args fun _=>undef) { tmps:=args.toArray++Array.replicate (fn.ntmps - args.toArray.size) undef,defers:=[] }:=by
  refine ⟨by simp; omega,fun t r=>?_,fun t r=>?_,rfl⟩
  ·rw [Cf];by_cases i:t<args.length
   ·rw [af (by omega)];simp [Array.getElem?_append,i]
   ·rw [ae (by omega)];rw [Array.getElem?_append_right (by simp; omega),Array.getElem?_replicate,af (by simp; omega)]
  ·rw [Cf,ae (by omega)]
 refine wp_mono (iD o c m _ _ w _ B g h) fun e D w'=>?_;rintro ⟨C,a,j⟩;rw [a.env] at j;cases e with
 | normal=>
  obtain ⟨v,i,l⟩:=yL j;exact ⟨a.defers,v,i,l⟩
 | ret=>
  obtain ⟨v,i,l⟩:=yL j;exact ⟨a.defers,v,i,l⟩
 | _=>exact j.elim

def l8 (fn:Func):Code:=fn.body.getD .skip
def ready (fn:Func) (k:Nat):Bool:=fn.body.isSome && Nat.ble k fn.ntmps && vV fn.ntmps (l8 fn)
theorem mA {P:Program} {f:FuncId} {fn:Func} (a:An) (args:List Value) {w:World} {R:Ending->World->Prop} {p:Prop}
  (j:P.follows .mixedOrders=true) (hf:P.funcs[f]?=some fn) (g:ready fn args.length=true)
  (h:p=vc P (l8 fn) a (IB P fn.results.toList R) (mQ 0 args fun _=>undef) w) (l:p):Calls P f args.toArray w R:=by
 simp only [ready,bJ] at g;obtain ⟨⟨i,m⟩,o⟩:=g;refine HR a j hf (c:=l8 fn) ?_ rfl m o (h ▸ l);unfold l8;cases q:fn.body with
 | none=>rw [q] at i; cases i
 | some c=>rfl
end
section
open Go Go.RowKit

abbrev ag:=Nat->Option Obj
def Sle (S S':ag):Prop:=∀ b o,S b=some o->S' b=some o
theorem Sle.refl (S:ag):Sle S S:=fun _ _ h=>h
theorem Sle.trans {S S' S'':ag} (h:Sle S S') (a:Sle S' S''):Sle S S'':=fun b o g=>a b o (h b o g)

inductive Item where
 | blk (b:Nat) (o:Obj)
 | row (v:Value) (e:TypeId) (size n:Nat) (xs:List Value)
def Item.foot:Item->List Nat
 | .blk b _=>[b]
 | .row v ..=>v.ownBlock.toList
def Item.holds (w:World):Item->Prop
 | .blk b o=>w.heap[b]?=some o
 | .row v e size n xs=>w.ownsRow 0 e size v n xs
def bT (L:List Item):List Nat:=L.flatMap Item.foot

theorem Item.lt {w:World}:∀ {it:Item},it.holds w->∀ b∈it.foot,b<w.heap.size
 | .blk b o,h,c,hc=>by
  simp only [Item.foot,cO] at hc;subst hc;exact (Qy.1 h).1
 | .row v e size n xs,h,c,hc=>by
  simp only [Item.foot,Option.mem_toList] at hc;exact (World.ownsRow.lt h c hc).2
theorem Item.kept {w w':World}:∀ {it:Item},it.holds w->w.heap.size<=w'.heap.size->w'.os=w.os->w'.tape=w.tape->w'.output=w.output->
  (∀ b∈it.foot,w'.heap[b]?=w.heap[b]?)->it.holds w'
 | .blk b o,h,_,_,_,_,hk=>(hk b (by simp [Item.foot])).trans h
 | .row v e size n xs,h,_,_,_,_,hk=>by
  refine ⟨h.1,?_⟩;rcases h.2 with hn|⟨g,cap,i,rfl,l,j,a⟩
  ·exact .inl hn
  ·exact .inr ⟨g,cap,i,rfl,l,(hk g (by simp [Item.foot,Value.ownBlock])).trans j,a⟩

structure Inv (w0:World) (X:List Nat) (L:List Item) (S:ag) (w:World):Prop where
 size:w0.heap.size<=w.heap.size
 os:w.os=w0.os
 tape:w.tape=w0.tape
 output:w.output=w0.output
 old:∀ b,b<w0.heap.size->b ∉ X->w.heap[b]?=w0.heap[b]?
 its:∀ it∈L,it.holds w
 nd:(bT L).Nodup
 new:∀ b∈bT L,b∈X ∨ w0.heap.size<=b
 pub:∀ b o,S b=some o->w.heap[b]?=some o/\b ∉ bT L

theorem mK {L:List Item} {b:Nat}:b∈bT L↔∃ it∈L,b∈it.foot:=by simp [bT,List.mem_flatMap]
theorem cB (L M:List Item):bT (L++M)=bT L++bT M:=by simp [bT]
theorem Inv.lt {w0 w:World} {X:List Nat} {L:List Item} {S:ag} (h:Inv w0 X L S w) {b:Nat} (a:b∈bT L):b<w.heap.size:=by
 obtain ⟨it,g,a⟩:=mK.1 a;exact Item.lt (h.its it g) b a
theorem Inv.publt {w0 w:World} {X:List Nat} {L:List Item} {S:ag} (h:Inv w0 X L S w) {b:Nat} {o:Obj} (a:S b=some o):b<w.heap.size:=
 (Qy.1 (h.pub b o a).1).1

theorem Inv.start {w:World} {L:List Item} {S:ag} (a:∀ it∈L,it.holds w) (hn:(bT L).Nodup) (g:∀ b o,S b=some o->w.heap[b]?=some o/\b ∉ bT L) :
  Inv w (bT L) L S w:=
 ⟨be _,rfl,rfl,rfl,fun _ _ _=>rfl,a,hn,fun _ h=>.inl h,g⟩
theorem Inv.begin {w0 w:World} {X:List Nat} {L:List Item} {S:ag} (h:Inv w0 X L S w):Inv w (bT L) L S w:=Inv.start h.its h.nd h.pub

theorem OD {L M:List Item} (h:List.Sublist M L):List.Sublist (bT M) (bT L):=by
 induction h with
 | slnil=>exact List.Sublist.refl _
 | cons a _ g=>simp only [bT,GT] at *; exact g.trans (dU _ _)
 | cons_cons a _ g=>simp only [bT,GT] at *; exact List.Sublist.append_left g _
theorem MS {L M:List Item} (a:List.Sublist M L) (h:(bT L).Nodup):(bT M).Nodup:=List.Nodup.sublist (OD a) h
theorem Inv.sub {w0 w:World} {X:List Nat} {L M:List Item} {S:ag} (h:Inv w0 X L S w) (g:List.Sublist M L):Inv w0 X M S w:=
 have j:∀ b,b∈bT M->b∈bT L:=fun b a=>by
  obtain ⟨it,m,p⟩:=mK.1 a;exact mK.2 ⟨it,g.subset m,p⟩
 ⟨h.size,h.os,h.tape,h.output,h.old,fun it l=>h.its it (g.subset l),MS g h.nd,fun b a=>h.new b (j b a),
  fun b o a=>⟨(h.pub b o a).1,fun i=>(h.pub b o a).2 (j b i)⟩⟩
theorem Inv.nil {w0 w:World} {X:List Nat} {L:List Item} {S:ag} (h:Inv w0 X L S w):Inv w0 X [] S w:=h.sub (List.nil_sublist _)
def vu:List Bool->List Item->List Item
 | true::bs,x::xs=>x::vu bs xs
 | false::bs,_::xs=>vu bs xs
 | _,_=>[]
theorem vQ:∀ (bs:List Bool) (L:List Item),List.Sublist (vu bs L) L
 | true::bs,x::xs=>by simp only [vu]; exact (vQ bs xs).cons_cons x
 | false::bs,x::xs=>by simp only [vu]; exact (vQ bs xs).cons x
 | [],L=>by simp [vu]
 | true::_,[]=>by simp [vu]
 | false::_,[]=>by simp [vu]
theorem Inv.pick {w0 w:World} {X:List Nat} {L:List Item} {S:ag} (h:Inv w0 X L S w) (bs:List Bool):Inv w0 X (vu bs L) S w:=h.sub (vQ bs L)
theorem Inv.less {w0 w:World} {X:List Nat} {L:List Item} {S S':ag} (h:Inv w0 X L S w) (a:Sle S' S):Inv w0 X L S' w:=
 { h with pub:=fun b o g=>h.pub b o (a b o g) }
theorem Inv.perm {w0 w:World} {X:List Nat} {L M:List Item} {S:ag} (h:Inv w0 X L S w) (i:List.Perm M L):Inv w0 X M S w:=by
 have hf:List.Perm (bT M) (bT L):=i.flatMap_right _;exact ⟨h.size,h.os,h.tape,h.output,h.old,fun it j=>h.its it (i.mem_iff.1 j),hf.symm.nodup h.nd,fun b a=>h.new b (hf.mem_iff.1 a),
  fun b o a=>⟨(h.pub b o a).1,fun g=>(h.pub b o a).2 (hf.mem_iff.1 g)⟩⟩

theorem Inv.step {w0 w w':World} {X:List Nat} {A B:List Item} {S S':ag} (h:Inv w0 X (A++B) S w) {B':List Item} (hc:Inv w (bT B) B' S' w')
  (D:∀ b o,S' b=some o->S b=some o ∨ b∈bT B ∨ w.heap.size<=b):Inv w0 X (A++B') S' w':=by
 have t:=h.nd;rw [cB,A8] at t;obtain ⟨G,M,m⟩:=t;have p:∀ b∈bT A,w'.heap[b]?=w.heap[b]?:=fun b g=>
  hc.old b (h.lt (by rw [cB]; exact ic _ g)) fun l=>m b g b l rfl
 refine ⟨g9 h.size hc.size,hc.os.trans h.os,hc.tape.trans h.tape,hc.output.trans h.output,fun b g r=>?_,fun it q=>?_,?_,fun b g=>?_,fun b o g=>?_⟩
 ·have u:b ∉ bT B:=fun l=>by
   rcases h.new b (by rw [cB]; exact iW _ l) with i|i
   ·exact r i
   ·omega
  rw [hc.old b (Nat.lt_of_lt_of_le g h.size) u];exact h.old b g r
 ·rcases cI.1 q with q|q
  ·exact Item.kept (h.its it (ic _ q)) hc.size hc.os hc.tape hc.output fun b g=>p b (mK.2 ⟨it,q,g⟩)
  ·exact hc.its it q
 ·rw [cB,A8];refine ⟨G,hc.nd,fun a C b g e=>?_⟩;subst e;have J:=h.lt (b:=a) (by rw [cB]; exact ic _ C);rcases hc.new a g with i|i
  ·exact m a C a i rfl
  ·omega
 ·rw [cB] at g;rcases cI.1 g with g|g
  ·exact h.new b (by rw [cB]; exact ic _ g)
  ·rcases hc.new b g with i|i
   ·exact h.new b (by rw [cB]; exact iW _ i)
   ·exact .inr (g9 h.size i)
 ·refine ⟨(hc.pub b o g).1,fun j=>?_⟩;rw [cB] at j;rcases cI.1 j with j|j
  ·rcases D b o g with i|i|i
   ·exact (h.pub b o i).2 (by rw [cB]; exact ic _ j)
   ·exact m b j b i rfl
   ·have:=h.lt (b:=b) (by rw [cB]; exact ic _ j);omega
  ·exact (hc.pub b o g).2 j

structure Grow (w w':World):Prop where
 size:w.heap.size<=w'.heap.size
 os:w'.os=w.os
 tape:w'.tape=w.tape
 output:w'.output=w.output
 old:∀ b,b<w.heap.size->w'.heap[b]?=w.heap[b]?
theorem Grow.refl (w:World):Grow w w:=⟨be _,rfl,rfl,rfl,fun _ _=>rfl⟩
theorem Inv.grow {w0 w w':World} {X:List Nat} {L:List Item} {S:ag} (h:Inv w0 X L S w) (a:Grow w w'):Inv w0 X L S w':=by
 have:Inv w (bT []) [] S w':=⟨a.size,a.os,a.tape,a.output,fun b g _=>a.old b g,by simp,by simp [bT],by simp [bT],
  fun b o g=>⟨(a.old b (h.publt g)).trans (h.pub b o g).1,by simp [bT]⟩⟩
 have i:=Inv.step (A:=L) (B:=[]) (by simpa using h) this (fun b o g=>.inl g);simpa using i
theorem Inv.addItem {w0 w w':World} {X:List Nat} {L:List Item} {S:ag} (h:Inv w0 X L S w) (i:Grow w w') {it:Item} (j:it.holds w')
  (hf:∀ b∈it.foot,w.heap.size<=b) (hn:it.foot.Nodup):Inv w0 X (L++[it]) S w':=by
 have g:bT [it]=it.foot:=by simp [bT]
 have:Inv w (bT []) [it] S w':=⟨i.size,i.os,i.tape,i.output,fun b a _=>i.old b a,by simpa using j,by rw [g]; exact hn,
  fun b a=>.inr (hf b (by rwa [g] at a)),fun b o a=>⟨(i.old b (h.publt a)).trans (h.pub b o a).1,fun l=>by
   have:=h.publt a;have:=hf b (by rwa [g] at l);omega⟩⟩
 exact Inv.step (A:=L) (B:=[]) (by simpa using h) this (fun b o a=>.inl a)
theorem Inv.alloc {w0 w:World} {X:List Nat} {L:List Item} {S:ag} (h:Inv w0 X L S w) (o:Obj) :
  Inv w0 X (L++[.blk w.heap.size o]) S { w with heap:=w.heap.push o }:=
 h.addItem (w':={ w with heap:=w.heap.push o }) (it:=.blk w.heap.size o) ⟨by simp,rfl,rfl,rfl,fun b a=>by simp [Array.getElem?_push,Nat.ne_of_lt a]⟩ (by simp [Item.holds]) (by simp [Item.foot]) (by simp [Item.foot])
theorem Inv.draw {w0 w:World} {X:List Nat} {L:List Item} {S:ag} (h:Inv w0 X L S w):Inv w0 X L S { w with drawn:=w.drawn+1 }:=
 h.grow ⟨be _,rfl,rfl,rfl,fun _ _=>rfl⟩

theorem wK {L:List Item} {i:Nat} {it:Item} (g:L[i]?=some it) (it':Item) :
  L=L.take i++it::L.drop (i+1)/\L.set i it'=L.take i++it'::L.drop (i+1):=by
 have a:i<L.length:=(iu.1 g).1;have h:L[i]=it:=(iu.1 g).2;constructor
 ·conv=>lhs; rw [<- List.take_append_drop i L,dR a,h]
 ·rw [wJ,af a]
theorem Inv.stepAt {w0 w w':World} {X:List Nat} {L:List Item} {S S':ag} (h:Inv w0 X L S w) {i:Nat} {it it':Item} (a:L[i]?=some it)
  {B:List Item} (hc:Inv w (bT [it]) (it'::B) S' w')
  (g:∀ b o,S' b=some o->S b=some o ∨ b∈bT [it] ∨ w.heap.size<=b):Inv w0 X (L.set i it'++B) S' w':=by
 obtain ⟨j,l⟩:=wK a it';have m:List.Perm ((L.take i++L.drop (i+1))++[it]) L:=by
  conv=>rhs; rw [j]
  rw [cN];exact Bx _ bK
 have p:List.Perm (L.set i it'++B) ((L.take i++L.drop (i+1))++(it'::B)):=by
  rw [l,cN,cN];refine Bx _ ?_;rw [dQ];exact zal101.symm
 exact (Inv.step (h.perm m) hc g).perm p
theorem Inv.change {w0 w w':World} {X:List Nat} {L:List Item} {S:ag} (h:Inv w0 X L S w) {i:Nat} {it it':Item} (u:L[i]?=some it)
  (m:w.heap.size<=w'.heap.size) (p:w'.os=w.os) (q:w'.tape=w.tape) (r:w'.output=w.output)
  (j:∀ b,b<w.heap.size->b ∉ it.foot->w'.heap[b]?=w.heap[b]?) (G:it'.holds w') (hf:∀ b∈it'.foot,b∈it.foot ∨ w.heap.size<=b) (hn:it'.foot.Nodup) :
  Inv w0 X (L.set i it') S w':=by
 have C:bT [it]=it.foot:=by simp [bT]
 have t:bT [it']=it'.foot:=by simp [bT]
 have J:it∈L:=fj u;have l:∀ b o,S b=some o->b ∉ it.foot:=fun b o a g=>(h.pub b o a).2 (mK.2 ⟨it,J,g⟩);have hc:Inv w (bT [it]) [it'] S w':=by
  refine ⟨m,p,q,r,fun b a g=>j b a (by rwa [C] at g),by simpa using G,by rw [t]; exact hn,fun b a=>?_,fun b o a=>⟨?_,fun g=>?_⟩⟩
  ·rw [t] at a; rw [C]; exact hf b a
  ·exact (j b (h.publt a) (l b o a)).trans (h.pub b o a).1
  ·rw [t] at g;have:=h.publt a;rcases hf b g with D|D
   ·exact l b o a D
   ·omega
 have:=h.stepAt u (B:=[]) hc fun b o a=>.inl a;simpa using this
theorem Inv.setBlk {w0 w:World} {X:List Nat} {L:List Item} {S:ag} (h:Inv w0 X L S w) {i b:Nat} {o:Obj} (j:L[i]?=some (.blk b o)) (o':Obj) {w':World}
  (l:w'={ w with heap:=w.heap.setIfInBounds b o' }):Inv w0 X (L.set i (.blk b o')) S w':=by
 have m:=h.its _ (fj j);have g:b<w.heap.size:=Item.lt m b (by simp [Item.foot]);subst l;refine h.change j (by simp) rfl rfl rfl (fun c _ a=>?_) ?_ (fun c hc=>.inl hc) (by simp [Item.foot])
 ·simp only [Item.foot,cO] at a;simp only [];rw [PN (fun e=>a e.symm)]
 ·simp [Item.holds,g]

def nl (S:ag) (b:Nat) (o:Obj):ag:=fun c=>if c=b then some o else S c
theorem Inv.publish {w0 w:World} {X:List Nat} {L:List Item} {S:ag} (h:Inv w0 X L S w) {i b:Nat} {o:Obj} (j:L[i]?=some (.blk b o)) :
  Inv w0 X (L.eraseIdx i) (nl S b o) w/\Sle S (nl S b o):=by
 have r:=h.its _ (fj j);have g:List.Sublist (L.eraseIdx i) L:=List.eraseIdx_sublist ..;have a:=h.sub g;have l:b ∉ bT (L.eraseIdx i):=by
  obtain ⟨q,_⟩:=wK j (.blk b o);have m:=h.nd;have t:i<L.length:=(iu.1 j).1;have p:List.Perm L (Item.blk b o::L.eraseIdx i):=by
   rw [Q3]
   conv=>lhs; rw [q]
   exact zal101
  have:(bT (Item.blk b o::L.eraseIdx i)).Nodup:=(p.flatMap_right Item.foot).nodup m;simp only [bT,GT,Item.foot,dQ,rC,List.nodup_cons] at this;exact this.1
 refine ⟨⟨a.size,a.os,a.tape,a.output,a.old,a.its,a.nd,a.new,fun c o' hc=>?_⟩,fun c o' hc=>?_⟩
 ·simp only [nl] at hc;split at hc
  ·rename_i e; subst e
   simp only [bh] at hc;subst hc;exact ⟨r,l⟩
  ·exact a.pub c o' hc
 ·simp only [nl];split
  ·rename_i e; subst e
   exact absurd (mK.2 ⟨_,fj j,by simp [Item.foot]⟩) (h.pub _ _ hc).2
  ·exact hc

def Ext (n:Nat) (Y:List Nat) (S S':ag):Prop:=Sle S S'/\∀ b o,S' b=some o->S b=some o ∨ b∈Y ∨ n<=b
theorem Ext.refl (n:Nat) (Y:List Nat) (S:ag):Ext n Y S S:=⟨Sle.refl S,fun _ _ h=>.inl h⟩
def Tri (P:Program) (f:FuncId) (args:List Value) (I:List Item) (S:ag) (Post:Value->List Item->ag->Prop):Prop:=
 ∀ w:World,Inv w (bT I) I S w->Calls P f args.toArray w fun e w'=>∃ v I' S',e=.returned v/\Inv w (bT I) I' S' w'/\Ext w.heap.size (bT I) S S'/\Post v I' S'
def Pure (P:Program) (f:FuncId) (args:List Value) (S:ag) (r:Value):Prop:=
 ∀ w:World,Inv w [] [] S w->Calls P f args.toArray w fun e w'=>e=.returned r/\Inv w [] [] S w'

theorem Run.callP {P:Program} {f:FuncId} {fn:Func} {args:List Value} {w:World} {K:Value->World->Prop} (hf:P.funcs[f]?=some fn) (hn:(fn.name == "runtime.NumGoroutine" || fn.body.isNone)=false)
  (h:Calls P f args.toArray w fun
   | .returned v,w'=>K v w'
   | _,_=>False):Run P (fa (.func (.func f) #[] #[]) args) w K:=by
 simp only [LE] at hn
 have a:¬ fn.name = "runtime.NumGoroutine" := by simpa using hn.1
 have g:¬ fn.body=none:=fun e=>by rw [e] at hn; simp at hn
 have e:(fa (.func (.func f) #[] #[]) args).run P w=.ok (.enter f args.toArray) w:=by
  simp [fa,Deferred.ofValue,invoke,callFunc,hf,a,g]
 unfold Run;rw [e];exact h

theorem Run.call {P:Program} {f:FuncId} {fn:Func} {args:List Value} {w w0:World} {X:List Nat} {A I:List Item} {S:ag} {Post:Value->List Item->ag->Prop} {K:Value->World->Prop}
  (hf:P.funcs[f]?=some fn) (hn:(fn.name == "runtime.NumGoroutine" || fn.body.isNone)=false) (h:Inv w0 X (A++I) S w) (hc:Tri P f args I S Post)
  (hk:∀ v I' S' w',Post v I' S'->Sle S S'->Inv w0 X (A++I') S' w'->K v w'):Run P (fa (.func (.func f) #[] #[]) args) w K:=by
 refine Run.callP hf hn ((hc w (h.sub (dU A I)).begin).mono ?_);rintro e w' ⟨v,I',S',rfl,g,a,i⟩;exact hk v I' S' w' i a.1 (Inv.step h g a.2)
theorem Run.callPure {P:Program} {f:FuncId} {fn:Func} {args:List Value} {w w0:World} {X:List Nat} {L:List Item} {S:ag} {r:Value} {K:Value->World->Prop}
  (hf:P.funcs[f]?=some fn) (hn:(fn.name == "runtime.NumGoroutine" || fn.body.isNone)=false) (h:Inv w0 X L S w) (hc:Pure P f args S r)
  (hk:∀ w',Inv w0 X L S w'->K r w'):Run P (fa (.func (.func f) #[] #[]) args) w K:=by
 refine Run.callP hf hn ((hc w h.nil.begin).mono ?_);rintro e w' ⟨rfl,a⟩;have i:=Inv.step (A:=L) (B:=[]) (by simpa using h) a fun b o g=>.inl g;exact hk w' (by simpa using i)
theorem Pure.less {P:Program} {f:FuncId} {args:List Value} {S S':ag} {r:Value} (h:Pure P f args S r) (j:Sle S S'):Pure P f args S' r:=by
 intro w g;refine (h w (g.less j)).mono ?_;rintro e w' ⟨l,a⟩;refine ⟨l,a.size,a.os,a.tape,a.output,a.old,by simp,by simp [bT],by simp [bT],fun b o i=>⟨?_,by simp [bT]⟩⟩;rw [a.old b (g.publt i) (by simp)];exact (g.pub b o i).1
end
section
open Go Go.RowKit

theorem Run.of {P:Program} {s:Sem Next} {w w':World} {v:Value} {K:Value->World->Prop} (h:s.run P w=.ok (.value v) w') (hk:K v w'):Run P s w K:=by
 unfold Run; rw [h]; exact hk
theorem Run.ofSkip {P:Program} {s:Sem Next} {w w':World} {K:Value->World->Prop} (h:s.run P w=.ok .skip w') (hk:K undef w'):Run P s w K:=by
 unfold Run; rw [h]; exact hk

def nD (P:Program) (T:TypeId):Option Nat:=match P.underlying T with
 | some (.struct _)|some (.array _ _)=>(P.info? T).map (·.size)
 | _=>none
def jO (P:Program) (T:TypeId):Bool:=match P.underlying T with
 | some (.struct _)|some (.array _ _)=>false
 | some _=>match P.info? T with
  | some i=>Nat.beq i.size 1
  | none=>false
 | none=>false
def cd (P:Program) (T:TypeId) (f:Nat):Option Nat:=match P.underlying T with
 | some (.struct fs)=>match fs[f]? with
  | some fd=>match P.info? fd.type with
   | some i=>match i.size with
    | 0=>none
    | _+1=>some fd.offset
   | none=>none
  | none=>none
 | _=>none
def cY (P:Program) (T:TypeId):Option (TypeId × Nat):=match P.underlying T with
 | some (.slice e)=>(P.info? e).map fun i=>(e,i.size)
 | _=>none
def fW (P:Program) (T:TypeId):Option Value:=match P.info? T with
 | some i=>i.zero
 | none=>none

section
variable {P:Program} {w:World}
theorem kK {T:TypeId} {i:TypeInfo} (h:P.info? T=some i):(sizeOf T).run P w=.ok i.size w:=by
 simp [sizeOf,typeInfo,h]
theorem OH {T:TypeId} {z:Value} (h:fW P T=some z):(zeroValue T).run P w=.ok z w:=by
 unfold fW at h;split at h
 ·rename_i i a; simp [zeroValue,typeInfo,a,h]
 ·cases h
theorem Eh {T:TypeId} {n:Nat} (h:nD P T=some n):(isAgg T).run P w=.ok true w/\(sizeOf T).run P w=.ok n w:=by
 unfold nD at h;split at h
 ·rename_i j g
  cases a:P.info? T with
  | none=>rw [a] at h; cases h
  | some i=>
   rw [a] at h;simp only [la,bh] at h;subst h;exact ⟨by simp [isAgg,run_underlying g],kK a⟩
 ·rename_i e m g
  cases a:P.info? T with
  | none=>rw [a] at h; cases h
  | some i=>
   rw [a] at h;simp only [la,bh] at h;subst h;exact ⟨by simp [isAgg,run_underlying g],kK a⟩
 ·cases h
theorem qy {T:TypeId} (h:jO P T=true):(isAgg T).run P w=.ok false w/\(sizeOf T).run P w=.ok 1 w:=by
 unfold jO at h;cases a:P.underlying T with
 | none=>rw [a] at h; cases h
 | some d=>
  rw [a] at h;cases g:P.info? T with
  | none=>rw [g] at h; cases d <;> cases h
  | some i=>
   rw [g] at h;have j:i.size=1:=by cases d <;> simp at h <;> exact h
   refine ⟨?_,by rw [kK g,j]⟩;cases d <;> simp [isAgg,run_underlying a] at h ⊢

theorem add_lit (b o n:Nat):(⟨b,o,none⟩:Addr).add n=⟨b,o+n,none⟩:=by unfold Addr.add; split <;> simp_all

theorem xu {T:TypeId} {n b o:Nat} {cs:List Value} (h:nD P T=some n) (g:cs.length=n) (hc:∀ j v,cs[j]?=some v->w.cell? ⟨b,o+j,none⟩=some v) :
  (loadVar T ⟨b,o,none⟩).run P w=.ok (.agg cs.toArray) w:=by
 obtain ⟨l,m⟩:=Eh (w:=w) h;have a:=run_loadCells_list (P:=P) (w:=w) ⟨b,o,none⟩ cs (fun j v i=>by rw [add_lit]; exact hc j v i);rw [g] at a;simp [loadVar,l,m,a]
theorem KO {T:TypeId} {b o:Nat} {v:Value} (h:jO P T=true) (hc:w.cell? ⟨b,o,none⟩=some v):(loadVar T ⟨b,o,none⟩).run P w=.ok v w:=by
 simp [loadVar,(qy (w:=w) h).1,hc]
end

section mem
variable {P:Program} {w w0:World} {X:List Nat} {L:List Item} {S:ag} {K:Value->World->Prop}

theorem Inv.cellS (h:Inv w0 X L S w) {b o:Nat} {c:Array Value} {E:TypeId} {a:Nat × Nat} (g:S b=some (.cells c E a)):w.cell? ⟨b,o,none⟩=c[o]?:=by
 simp [World.cell?,(h.pub b _ g).1]
theorem Inv.cellL (h:Inv w0 X L S w) {i b o:Nat} {c:Array Value} {E:TypeId} {a:Nat × Nat} (g:L[i]?=some (.blk b (.cells c E a))):w.cell? ⟨b,o,none⟩=c[o]?:=by
 have:=h.its _ (fj g);simp only [Item.holds] at this;simp [World.cell?,this]

theorem bH (h:Inv w0 X L S w) {T ty:TypeId} {v:Value} (hk:∀ b w',Inv w0 X (L++[.blk b (.cells v.cells T)]) S w'->K (.pointer (some ⟨b,0,none⟩)) w') :
  Run P (sOp (.box T (.const v)) ty) w K:=by
 refine Run.of (v:=.pointer (some ⟨w.heap.size,0,none⟩)) ?_ (hk _ _ (h.alloc _));simp [sOp,execOp,Instr.box,newVar,newRow,newObj,ev0,evE,Sem.run]
theorem aH (h:Inv w0 X L S w) {T ty:TypeId} {z:Value} (a:fW P T=some z) (hk:∀ b w',Inv w0 X (L++[.blk b (.cells z.cells T)]) S w'->K (.pointer (some ⟨b,0,none⟩)) w') :
  Run P (sOp (.alloc T) ty) w K:=by
 refine Run.of (v:=.pointer (some ⟨w.heap.size,0,none⟩)) ?_ (hk _ _ (h.alloc _));simp [sOp,execOp,Instr.alloc,newVar,newRow,newObj,OH a,Sem.run]
theorem au {T ty:TypeId} {f b o k:Nat} (hf:cd P T f=some k) (hk:K (.pointer (some ⟨b,o+k,none⟩)) w) :
  Run P (sOp (.fieldAddr T (.const (.pointer (some ⟨b,o,none⟩))) f) ty) w K:=by
 refine Run.of ?_ hk;unfold cd at hf;split at hf <;> try cases hf
 rename_i l h
 split at hf <;> try cases hf
 rename_i m a
 split at hf <;> try cases hf
 rename_i i j
 split at hf <;> try cases hf
 rename_i n hn
 have g:¬ i.size=0:=by omega
 simp [sOp,execOp,Instr.fieldAt,run_underlying h,a,Instr.sureAddr,ev0,evE,fieldPlace,kK j,g,add_lit]
theorem dE {T ty:TypeId} {b o:Nat} {v:Value} (a:jO P T=true) (hc:w.cell? ⟨b,o,none⟩=some v) (hk:K v w) :
  Run P (sOp (.load T (.const (.pointer (some ⟨b,o,none⟩)))) ty) w K:=by
 refine Run.of ?_ hk;simp [sOp,execOp,Instr.loadAt,Instr.sureAddr,ev0,evE,KO a hc]
theorem dX {T ty:TypeId} {b o n:Nat} {cs:List Value} (a:nD P T=some n) (g:cs.length=n) (hc:∀ j v,cs[j]?=some v->w.cell? ⟨b,o+j,none⟩=some v) (hk:K (.agg cs.toArray) w) :
  Run P (sOp (.load T (.const (.pointer (some ⟨b,o,none⟩)))) ty) w K:=by
 refine Run.of ?_ hk;simp [sOp,execOp,Instr.loadAt,Instr.sureAddr,ev0,evE,xu a g hc]
theorem aD (h:Inv w0 X L S w) {T ty:TypeId} (i:Nat) {b o:Nat} {c:Array Value} {E:TypeId} {v:Value} (a:jO P T=true) (g:L[i]?=some (.blk b (.cells c E))) (hc:c[o]?=some v) (hk:K v w) :
  Run P (sOp (.load T (.const (.pointer (some ⟨b,o,none⟩)))) ty) w K:=
 dE a ((h.cellL g).trans hc) hk
theorem fo (h:Inv w0 X L S w) {T ty:TypeId} (i:Nat) {b o n:Nat} {c:Array Value} {E:TypeId} (cs:List Value) (a:nD P T=some n) (g:L[i]?=some (.blk b (.cells c E))) (l:cs.length=n)
  (hc:∀ j v,cs[j]?=some v->c[o+j]?=some v) (hk:K (.agg cs.toArray) w):Run P (sOp (.load T (.const (.pointer (some ⟨b,o,none⟩)))) ty) w K:=
 dX a l (fun j v m=>(h.cellL g).trans (hc j v m)) hk
theorem aq (h:Inv w0 X L S w) {T ty:TypeId} (i:Nat) {b n:Nat} {c:Array Value} {E:TypeId} (a:nD P T=some n) (g:L[i]?=some (.blk b (.cells c E))) (l:c.size=n)
  (hk:K (.agg c) w):Run P (sOp (.load T (.const (.pointer (some ⟨b,0,none⟩)))) ty) w K:=by
 refine fo h i (o:=0) c.toList a g (by simpa using l) (fun j v m=>by simpa using m) ?_;simpa using hk
theorem bp (h:Inv w0 X L S w) {T:TypeId} {K:Value->Prop} (i:Nat) {b n:Nat} {c:Array Value} {E:TypeId} (a:nD P T=some n) (g:L[i]?=some (.blk b (.cells c E))) (l:c.size=n)
  (hk:K (.agg c)):aU P T (.pointer (some ⟨b,0,none⟩)) w K:=by
 unfold aU;refine ⟨_,?_,hk⟩;have:=xu (w:=w) (P:=P) (b:=b) (o:=0) (cs:=c.toList) a (by simpa using l) (fun j v m=>by
  rw [h.cellL g]; simpa using m)
 simpa [asAddr] using this

def bY (c:Array Value) (o:Nat) (vs:List Value):Array Value:=(c.toList.take o++vs++c.toList.drop (o+vs.length)).toArray
theorem D9 {w:World} {g:Nat} {c cs:Array Value} {E:TypeId} {j:Nat × Nat} (a:w.heap[g]?=some (.cells c E j)) :
  w.setRow g cs={ w with heap:=w.heap.setIfInBounds g (.cells cs E j) }:=by
 have h:=(Qy.1 a).1;have l:=(Qy.1 a).2;unfold World.setRow
 congr 1
 apply Array.ext_getElem?;intro i;by_cases e:g=i
 ·subst e;rw [Array.getElem?_modify,af rfl,a];simp [h]
 ·rw [PN e,Array.getElem?_modify,ae e]
theorem ef (h:Inv w0 X L S w) {T ty:TypeId} (i:Nat) {b o:Nat} {c:Array Value} {E:TypeId} {v:Value} {n:Nat} (hn:v.cells.size=n) (p:(jO P T && Nat.beq n 1 || nD P T == some n)=true)
  (q:L[i]?=some (.blk b (.cells c E))) (a:o+n<=c.size) (r:∀ u∈v.cells.toList,u.oneCell'=true)
  (hk:∀ w',Inv w0 X (L.set i (.blk b (.cells (bY c o v.cells.toList) E))) S w'->K undef w') :
  Run P (sOp (.store T (.const (.pointer (some ⟨b,o,none⟩))) (.const v)) ty) w K:=by
 have j:=h.its _ (fj q);simp only [Item.holds] at j;have l:(sizeOf T).run P w=.ok n w:=by
  simp only [lQ,bJ,beq_iff_eq] at p;rcases p with ⟨m,t⟩|m
  ·rw [(qy (w:=w) m).2,BL t]
  ·exact (Eh (w:=w) m).2
 have g:=run_storeCells_at P b o E v.cells.toList 0 c w j (by simpa [hn] using a) r;refine Run.ofSkip (w':=w.setRow b (bY c o v.cells.toList)) ?_ (hk _ (h.setBlk q _ (D9 j)));simp only [wU] at g;simp [sOp,execOp,Instr.storeAt,Instr.sureAddr,ev0,evE,storeVar,l,hn,g,bY]
theorem aT {T ty E:TypeId} {k b o len cap i:Nat} (a:cY P T=some (E,k)) (g:i<len) (hk:K (.pointer (some ⟨b,o+i * k,none⟩)) w) :
  Run P (sOp (.indexAddr T (.const (.slice (some ⟨b,o,none⟩) len cap)) (.const (.int .i64 i))) ty) w K:=by
 refine Run.of ?_ hk;unfold cY at a;split at a <;> try cases a
 rename_i e j
 cases h:P.info? e with
 | none=>rw [h] at a; cases a
 | some l=>
  rw [h] at a;simp only [la,bh,di] at a;obtain ⟨rfl,rfl⟩:=a;have m:(0:Int)<=(i:Int)/\(i:Int)<(len:Int):=⟨by omega,by omega⟩
  simp [sOp,execOp,Instr.indexAt,asIntOf,run_underlying j,ev0,evE,kK h,g,add_lit]
end mem

section pure
variable {P:Program} {w:World} {K:Value->World->Prop}
theorem aL {ty:TypeId} {a:Addr} (hk:K (.pointer (some a)) w):Run P (sOp (.nilCheck (.const (.pointer (some a)))) ty) w K:=
 Run.of (by simp [sOp,execOp,ev0,evE]) hk
theorem sA {ty:TypeId} {c:Bool} {a b:Value} (hk:K (if c=true then a else b) w):Run P (sOp (.pick (.const (.bool c)) (.const a) (.const b)) ty) w K:=
 Run.of (by simp [sOp,execOp,ev0,evE,asBool]) hk
theorem cU {T ty:TypeId} {c:Bool} (hk:K (.bool (!c)) w):Run P (sOp (.unOp .not T (.const (.bool c))) ty) w K:=
 Run.of (by simp [sOp,execOp,ev0,evE,Op.unary]) hk
theorem aA {ty:TypeId} {vs:Array Value} {i:Nat} {v:Value} (a:vs[i]?=some v) (hk:K v w):Run P (sOp (.extract (.const (.tuple vs)) i) ty) w K:=
 Run.of (by simp [sOp,execOp,ev0,evE,Instr.extract,a]) hk
theorem r8 {fn:Fn} {a b:List Value} (hk:K (.func fn a.toArray b.toArray) w):Run P (eN fn a b) w K:=
 Run.of (by simp [eN,Instr.makeFunc]) hk
theorem dA (op:BinOp) (T:TypeId) (x y:Operand) (k g:IntKind) (a b:Int):(eqGuard op T x y (.int k a) (.int g b)).run P w=.ok () w:=by
 unfold eqGuard; simp
theorem qt (op:BinOp) (T:TypeId) (x y:Operand) (a b:ByteArray):(eqGuard op T x y (.string a) (.string b)).run P w=.ok () w:=by
 unfold eqGuard; simp
theorem uf (op:BinOp) (T:TypeId) (x y:Operand) (a b:Bool):(eqGuard op T x y (.bool a) (.bool b)).run P w=.ok () w:=by
 unfold eqGuard; simp
theorem bF {T:TypeId} {g h:Bool} {a b:Int} (i:-9223372036854775808<=a+b/\a+b<=9223372036854775807) (hk:K (.int .i64 (a+b)) w):Run P (dh .add T g h (.int .i64 a) (.int .i64 b)) w K:=
 Run.of (by simp [dh,dA,binOp,Op.intArith,IntWalk.i64_in _ i]) hk
theorem jx {T:TypeId} {g h:Bool} {a b:Int} (i:-9223372036854775808<=a - b/\a - b<=9223372036854775807) (hk:K (.int .i64 (a - b)) w):Run P (dh .sub T g h (.int .i64 a) (.int .i64 b)) w K:=
 Run.of (by simp [dh,dA,binOp,Op.intArith,IntWalk.i64_in _ i]) hk
theorem cu {T:TypeId} {g h:Bool} {k:IntKind} {a b:Int} (hk:K (.bool (decide (a<b))) w):Run P (dh .lss T g h (.int k a) (.int k b)) w K:=
 Run.of (by simp [dh,dA,binOp,Op.intCmp]) hk
theorem fY {T:TypeId} {g h:Bool} {k:IntKind} {a b:Int} (hk:K (.bool (decide (a<=b))) w):Run P (dh .leq T g h (.int k a) (.int k b)) w K:=
 Run.of (by simp [dh,dA,binOp,Op.intCmp]) hk
theorem fC {T:TypeId} {g h:Bool} {k:IntKind} {a b:Int} (hk:K (.bool (decide (b<a))) w):Run P (dh .gtr T g h (.int k a) (.int k b)) w K:=
 Run.of (by simp [dh,dA,binOp,Op.intCmp]) hk
theorem lj {T:TypeId} {g h:Bool} {k:IntKind} {a b:Int} (hk:K (.bool (decide (b<=a))) w):Run P (dh .geq T g h (.int k a) (.int k b)) w K:=
 Run.of (by simp [dh,dA,binOp,Op.intCmp]) hk
theorem bn {T:TypeId} {g h:Bool} {k:IntKind} {a b:Int} (hk:K (.bool (decide (a=b))) w):Run P (dh .eql T g h (.int k a) (.int k b)) w K:=
 Run.of (by simp [dh,dA,binOp,Op.intCmp]; rfl) hk
theorem pu {T:TypeId} {g h:Bool} {k:IntKind} {a b:Int} (hk:K (.bool (!decide (a=b))) w):Run P (dh .neq T g h (.int k a) (.int k b)) w K:=
 Run.of (by simp [dh,dA,binOp,Op.intCmp]; rfl) hk
theorem H5 (a:ByteArray):∀ (n i:Nat) (r:List UInt8),a.size - i=n->ByteArray.toList.loop a i r=r.reverse++a.data.toList.drop i:=by
 intro n;induction n with
 | zero=>
  intro i r hn;unfold ByteArray.toList.loop;have h:¬ i<a.size:=by omega
  have g:a.data.toList.length<=i:=by
   have e:a.data.toList.length=a.size:=by rw [Np]; rfl
   omega
  rw [ae h,Cj g,dc]
 | succ n m=>
  intro i r hn;unfold ByteArray.toList.loop;have h:i<a.size:=by omega
  have g:i<a.data.toList.length:=by
   have e:a.data.toList.length=a.size:=by rw [Np]; rfl
   omega
  rw [af h,m (i+1) _ (by omega),dR g];have j:i<a.data.size:=by simpa using g
  have l:a.get! i=a.data.toList[i]:=by
   show a.data[i]! = _;rw [getElem!_pos a.data i j,Array.getElem_toList]
  rw [l,List.reverse_cons,cN];rfl
theorem u6 (a:ByteArray):a.toList=a.data.toList:=by
 unfold ByteArray.toList;rw [H5 a _ 0 [] rfl];rfl
theorem tt (a b:ByteArray):(a.toList == b.toList)=decide (a=b):=by
 rw [u6,u6,rZ];simp only [beq_iff_eq,bE];constructor
 ·intro h;cases a; cases b;simp only [ByteArray.mk.injEq];exact zo.1 h
 ·rintro rfl; rfl
theorem cM {T:TypeId} {g h:Bool} {a b:ByteArray} (hk:K (.bool (decide (a=b))) w):Run P (dh .eql T g h (.string a) (.string b)) w K:=
 Run.of (by simp only [dh,binOp,Op.stringOp,Sem.run_bind,qt,Result.andThen_ok,Sem.run_pure,tt]) hk
theorem NX {T:TypeId} {g h:Bool} {a b:ByteArray} (hk:K (.bool (!decide (a=b))) w):Run P (dh .neq T g h (.string a) (.string b)) w K:=
 Run.of (by simp only [dh,binOp,Op.stringOp,Sem.run_bind,qt,Result.andThen_ok,Sem.run_pure,tt]) hk
theorem KI {T:TypeId} {g h:Bool} {a b:Bool} (i:P.underlying T=some .bool) (hk:K (.bool (!(a == b))) w):Run P (dh .neq T g h (.bool a) (.bool b)) w K:=
 Run.of (by
  have j:(Op.equal T (.bool a) (.bool b)).run P w=.ok (a == b) w:=by
   rw [Op.equal,Op.maxDepth,Op.equalIn.eq_def];simp [run_underlying i]
  simp only [dh,binOp,Sem.run_bind,uf,Result.andThen_ok,j,Sem.run_pure]) hk
theorem kJ {T ty:TypeId} {cs:List Bool} {s:ByteArray} (a:P.underlying T=some .string) (hk:K (.int .i64 s.size) w):Run P (bO .len #[T] ty cs [.string s]) w K:=
 Run.of (by simp [bO,builtin,Builtin.len_,run_underlying a,goInt]) hk
theorem iN {T ty:TypeId} {cs:List Bool} {a:Option Addr} {n c:Nat} {Ek:TypeId × Nat} (g:cY P T=some Ek) (hk:K (.int .i64 n) w):Run P (bO .len #[T] ty cs [.slice a n c]) w K:=by
 refine Run.of ?_ hk;unfold cY at g;split at g <;> try cases g
 rename_i e h
 simp [bO,builtin,Builtin.len_,run_underlying h,goInt]
theorem kR {T ty:TypeId} {s:ByteArray} {i:Nat} (a:P.underlying T=some .string) (g:i<s.size) (hk:K (.int .u8 s[i].toNat) w) :
  Run P (sOp (.index T (.const (.string s)) (.const (.int .i64 i))) ty) w K:=by
 refine Run.of ?_ hk;have h:(0:Int)<=(i:Int):=by omega
 simp [sOp,execOp,Instr.index,asIntOf,run_underlying a,ev0,evE,g]
end pure

theorem aI {c:Bool} {A B:Prop} (a:c=true->A) (hf:c=false->B):CondV (.bool c) A B:=by
 unfold CondV;cases c
 ·exact hf rfl
 ·exact a rfl
theorem aS {p:Prop} [Decidable p] {A B:Prop} (a:p->A) (hf:¬ p->B):CondV (.bool (decide p)) A B:=
 aI (fun h=>a (of_decide_eq_true h)) (fun h=>hf (of_decide_eq_false h))
theorem Le {c b:Bool} {A B:Prop} (a:c=b->A) (hf:c≠b->B):aC (.bool c) b A B:=by
 unfold aC;simp only [];split
 ·rename_i e; exact a e
 ·rename_i e; exact hf e
end
section
open Go Go.RowKit
attribute [local irreducible] Run CondV aC aU

def inI (n:Int):Prop:=-9223372036854775808<=n/\n<=9223372036854775807

inductive T where
 | mk (kind n:Int) (name:ByteArray) (kids:List T)
namespace T
def kind:T->Int
 | .mk k _ _ _=>k
def n:T->Int
 | .mk _ n _ _=>n
def name:T->ByteArray
 | .mk _ _ s _=>s
def kids:T->List T
 | .mk _ _ _ ks=>ks
theorem ind {p:T->Prop} (h:∀ k n s ks,(∀ t∈ks,p t)->p (.mk k n s ks)) (t:T):p t:=
 T.rec (motive_1:=p) (motive_2:=fun l=>∀ t∈l,p t) (fun k n s ks i=>h k n s ks i) (by simp) (fun a l j m t g=>by
  rcases ek.1 g with rfl|g
  ·exact j
  ·exact m t g) t
end T
structure C where
 head:T
 body:List T

def bB (c:Array Value) (o k:Nat):List Value:=(c.toList.drop o).take k
def RdSl {α:Type} (S:ag) (k:Nat) (R:List Value->α->Prop) (v:Value) (xs:List α):Prop:=
 ∃ a cap,v=.slice a xs.length cap/\xs.length<=cap/\cap<=maxLen/\
  (xs=[] ∨ ∃ b o c E fz,a=some ⟨b,o,none⟩/\S b=some (.cells c E fz)/\∀ i (h:i<xs.length),R (bB c (o+i * k) k) xs[i])
inductive RdT (S:ag):List Value->T->Prop
 | nil {k n:Int} {s:ByteArray} {a:Option Addr} {cap:Nat} (hk:inI k) (hn:inI n) (hs:s.size<=maxLen) (hc:cap<=maxLen) :
   RdT S [.int .i64 k,.int .i64 n,.string s,.slice a 0 cap] (.mk k n s [])
 | cons {k n:Int} {s:ByteArray} {kids:List T} {b o cap:Nat} {c:Array Value} {E:TypeId} {fz:Nat × Nat} (hk:inI k) (hn:inI n) (hs:s.size<=maxLen) (hl:kids.length<=cap) (hc:cap<=maxLen)
   (hS:S b=some (.cells c E fz)) (h:∀ i (h:i<kids.length),RdT S (bB c (o+i * 4) 4) kids[i]) :
   RdT S [.int .i64 k,.int .i64 n,.string s,.slice (some ⟨b,o,none⟩) kids.length cap] (.mk k n s kids)
theorem RdT.iff {S:ag} {cs:List Value} {t:T}:RdT S cs t ↔
  ∃ ks,cs=[.int .i64 t.kind,.int .i64 t.n,.string t.name,ks]/\inI t.kind/\inI t.n/\t.name.size<=maxLen/\RdSl S 4 (RdT S) ks t.kids:=by
 constructor
 ·intro h;cases h with
  | nil hk hn g hc=>exact ⟨_,rfl,hk,hn,g,_,_,rfl,aK _,hc,.inl rfl⟩
  | cons hk hn g i hc j h=>exact ⟨_,rfl,hk,hn,g,_,_,rfl,i,hc,.inr ⟨_,_,_,_,_,rfl,j,h⟩⟩
 ·obtain ⟨k,n,s,kids⟩:=t;rintro ⟨ks,rfl,hk,hn,g,a,cap,rfl,i,hc,h⟩;rcases h with h|⟨b,o,c,E,l,rfl,j,h⟩
  ·simp only [T.kids] at h;subst h;exact RdT.nil hk hn g hc
  ·exact RdT.cons hk hn g i hc j h
theorem RdT.length {S:ag} {cs:List Value} {t:T} (h:RdT S cs t):cs.length=4:=by
 obtain ⟨ks,rfl,_⟩:=RdT.iff.1 h; rfl
theorem RdT.mono {S S':ag} (a:Sle S S') {cs:List Value} {t:T} (h:RdT S cs t):RdT S' cs t:=by
 induction h with
 | nil hk hn a hc=>exact RdT.nil hk hn a hc
 | cons hk hn g i hc j _ l=>exact RdT.cons hk hn g i hc (a _ _ j) l
theorem RdSl.mono {α:Type} {S S':ag} {k:Nat} {R R':List Value->α->Prop} {v:Value} {xs:List α} (g:Sle S S') (hR:∀ cs x,R cs x->R' cs x) (h:RdSl S k R v xs):RdSl S' k R' v xs:=by
 obtain ⟨a,cap,rfl,l,hc,h⟩:=h;refine ⟨a,cap,rfl,l,hc,?_⟩;rcases h with h|⟨b,o,c,E,m,p,q,h⟩
 ·exact .inl h
 ·exact .inr ⟨b,o,c,E,m,p,g _ _ q,fun i j=>hR _ _ (h i j)⟩
theorem RdSl.monoT {S S':ag} {v:Value} {xs:List T} (a:Sle S S') (h:RdSl S 4 (RdT S) v xs):RdSl S' 4 (RdT S') v xs:=h.mono a fun _ _=>RdT.mono a
def RdC (S:ag) (cs:List Value) (c:C):Prop:=∃ hd ks,cs=hd++[ks]/\RdT S hd c.head/\RdSl S 4 (RdT S) ks c.body
theorem RdC.length {S:ag} {cs:List Value} {c:C} (h:RdC S cs c):cs.length=5:=by
 obtain ⟨a,ks,rfl,h,_⟩:=h; simp [h.length]
theorem RdC.mono {S S':ag} (a:Sle S S') {cs:List Value} {c:C} (h:RdC S cs c):RdC S' cs c:=by
 obtain ⟨g,ks,rfl,i,j⟩:=h; exact ⟨g,ks,rfl,i.mono a,j.monoT a⟩
theorem RdSl.monoC {S S':ag} {v:Value} {xs:List C} (a:Sle S S') (h:RdSl S 5 (RdC S) v xs):RdSl S' 5 (RdC S') v xs:=h.mono a fun _ _=>RdC.mono a

theorem RdSl.at_ {α:Type} {S:ag} {k:Nat} {R:List Value->α->Prop} {v:Value} {xs:List α} (h:RdSl S k R v xs) {i:Nat} (j:i<xs.length) :
  ∃ b o cap c E g,v=.slice (some ⟨b,o,none⟩) xs.length cap/\S b=some (.cells c E g)/\R (bB c (o+i * k) k) xs[i]:=by
 obtain ⟨a,cap,rfl,m,hc,h⟩:=h;rcases h with h|⟨b,o,c,E,g,rfl,l,h⟩
 ·subst h; simp at j
 ·exact ⟨b,o,cap,c,E,g,rfl,l,h i j⟩
theorem RdSl.le {α:Type} {S:ag} {k:Nat} {R:List Value->α->Prop} {v:Value} {xs:List α} (h:RdSl S k R v xs):xs.length<=maxLen:=by
 obtain ⟨a,cap,rfl,g,hc,h⟩:=h; exact g9 g hc
theorem bd {c:Array Value} {o k:Nat} {cs:List Value} (e:bB c o k=cs):∀ j v,cs[j]?=some v->c[o+j]?=some v:=by
 intro j v h;subst e;rw [bB,yI] at h;split at h
 ·rw [xI] at h; simpa using h
 ·cases h

section
variable {P:Program} {w w0:World} {X:List Nat} {L:List Item} {S:ag} {K:Value->World->Prop}
theorem aG {α:Type} {T ty:TypeId} {cs:List Bool} {k:Nat} {R:List Value->α->Prop} {v:Value} {xs:List α} {Ek:TypeId × Nat} (h:RdSl S k R v xs) (g:cY P T=some Ek)
  (hk:K (.int .i64 xs.length) w):Run P (bO .len #[T] ty cs [v]) w K:=by
 obtain ⟨a,cap,rfl,_⟩:=h;exact iN g hk
def elP (v:Value) (n:Nat):Value:=match v with
 | .slice (some a) _ _=>.pointer (some ⟨a.block,a.off+n,none⟩)
 | _=>undef
def elQ (v:Value) (n d:Nat):Value:=match v with
 | .slice (some a) _ _=>.pointer (some ⟨a.block,a.off+n+d,none⟩)
 | _=>undef
section
variable {K:Value->Value->World->Prop} {K3:Value->Value->Value->World->Prop}
theorem dy {α:Type} {T U ty g E:TypeId} {k:Nat} {R:List Value->α->Prop} {v:Value} {xs:List α} (m:Inv w0 X L S w) (h:RdSl S k R v xs) (q:cY P T=some (E,k)) (r:nD P U=some k)
  {i:Nat} (l:i<xs.length) (a:∀ cs x,R cs x->cs.length=k) (hk:∀ cs,R cs xs[i]->K (elP v (i * k)) (.agg cs.toArray) w) :
  Run P (sOp (.indexAddr T (.const v) (.const (.int .i64 i))) ty) w fun p w'=>Run P (sOp (.load U (.const p)) g) w' (K p):=by
 obtain ⟨b,o,cap,c,E',B,rfl,u,hR⟩:=h.at_ l;refine aT q l ?_;refine dX r (a _ _ hR) (fun j v t=>?_) (hk _ hR);rw [m.cellS u];exact bd rfl j v t
theorem P9 {α:Type} {T Tf U ty g a E:TypeId} {k f d:Nat} {R:List Value->α->Prop} {v u:Value} {xs:List α} (m:Inv w0 X L S w) (h:RdSl S k R v xs) (r:cY P T=some (E,k)) (hf:cd P Tf f=some d) (t:jO P U=true)
  {i:Nat} (l:i<xs.length) (hc:∀ cs,R cs xs[i]->cs[d]?=some u) (hk:K3 (elP v (i * k)) (elQ v (i * k) d) u w) :
  Run P (sOp (.indexAddr T (.const v) (.const (.int .i64 i))) ty) w fun p w'=>Run P (sOp (.fieldAddr Tf (.const p) f) g) w' fun q j=>Run P (sOp (.load U (.const q)) a) j (K3 p q):=by
 obtain ⟨b,o,cap,c,E',C,rfl,B,hR⟩:=h.at_ l;refine aT r l ?_;refine au hf ?_;refine dE t ?_ hk;rw [m.cellS B];exact bd rfl d u (hc _ hR)
theorem ah {T U ty a E:TypeId} {f d b:Nat} {c:Array Value} {u:Value} (g:Inv w0 X L S w) (i:Nat) (h:L[i]?=some (.blk b (.cells c E))) (hf:cd P T f=some d) (j:jO P U=true) (hc:c[d]?=some u)
  (hk:K (.pointer (some ⟨b,d,none⟩)) u w):Run P (sOp (.fieldAddr T (.const (.pointer (some ⟨b,0,none⟩))) f) ty) w fun q w'=>Run P (sOp (.load U (.const q)) a) w' (K q):=by
 refine au hf ?_;rw [df];exact aD g i j h hc hk
end
end
theorem Pure.mk {P:Program} {f:FuncId} {args:List Value} {S:ag} {r:Value} (h:∀ w:World,Inv w [] [] S w->Calls P f args.toArray w fun e w'=>e=.returned r/\Inv w [] [] S w'):Pure P f args S r:=h
theorem done {w w':World} {L:List Item} {S:ag} {r a:Value} (h:Inv w [] L S w') (e:a=r):Ending.returned a=.returned r/\Inv w [] [] S w':=⟨by rw [e],h.nil⟩

section
variable {P:Program} {w:World} {K:Value->World->Prop} {ty:TypeId}
theorem bN {b:Bool} {A B:Prop} (h:A):aC (.bool b) b A B:=by unfold aC; simp only [if_true]; exact h
theorem dH {c b:Bool} {A B:Prop} (hc:c≠b) (h:B):aC (.bool c) b A B:=by unfold aC; simp only [ae hc]; exact h
theorem G7 {b:Bool} {A B:Prop} (h:B):aC undef b A B:=by unfold aC; exact h
theorem zK {v u:Value} (hk:K v w):Run P (sOp (.pick (.const (.bool true)) (.const v) (.const u)) ty) w K:=sA hk
theorem qI {v u:Value} (hk:K u w):Run P (sOp (.pick (.const (.bool false)) (.const v) (.const u)) ty) w K:=sA hk
theorem rpG {p q:Prop} (h:q) (i:q->p:=by (intro h; (repeat (first|refine bN ?_|refine dH (by decide) ?_|refine G7 ?_|refine zK ?_|refine qI ?_)); exact h)):p:=i h
end
end
section
open Go Go.RowKit
attribute [local irreducible] Run CondV aC aU

def iB (P:Program) (T:TypeId):Option (TypeId × Nat × Nat × Value):=match P.underlying T with
 | some (.slice e)=>match P.info? e with
  | some i=>match i.zero with
   | some z=>match Nat.beq z.cells.size i.size with
    | true=>some (e,i.size,i.bytes,z)
    | false=>none
   | none=>none
  | none=>none
 | _=>none
theorem kz {P:Program} {T e:TypeId} {k a:Nat} {z:Value} (h:iB P T=some (e,k,a,z)) :
  P.underlying T=some (.slice e)/\∃ i,P.info? e=some i/\i.zero=some z/\i.size=k/\i.bytes=a/\z.cells.size=k:=by
 unfold iB at h;split at h <;> try cases h
 rename_i o g
 split at h <;> try cases h
 rename_i i j
 split at h <;> try cases h
 rename_i p l
 split at h <;> try cases h
 rename_i m
 exact ⟨g,i,j,l,rfl,rfl,BL m⟩

theorem Hc:∀ (l:List Value) (o j:Nat) (cs:Array Value),o+j+l.length<=cs.size->
  (l.zipIdx j).foldl (fun cs p=>cs.setIfInBounds (o+p.2) p.1) cs=bY cs (o+j) l
 | [],o,j,cs,_=>by simp [bY]
 | v::l,o,j,cs,h=>by
  simp only [aO] at h;rw [List.zipIdx_cons,List.foldl_cons,Hc l o (j+1) _ (by simp; omega)];apply zo.1;simp only [bY,aO];rw [QN,show o+(j+1)=o+j+1 by omega];have a:o+j<cs.toList.length:=by simp; omega
  rw [ia (by simpa using a),List.take_set_of_le (be _)];simp only [Hi,cN,dQ,rC];rw [List.drop_set_of_lt (by omega),show o+j+1+l.length=o+j+(l.length+1) by omega]
theorem Ii (v:Value) (o:Nat) (cs:Array Value) (h:o+v.cells.size<=cs.size) :
  v.cells.zipIdx.foldl (fun cs (c,j)=>cs.setIfInBounds (o+j) c) cs=bY cs o v.cells.toList:=by
 rw [<- Array.foldl_toList,Array.toList_zipIdx];exact Hc v.cells.toList o 0 cs (by simpa using h)
theorem gW (c:Array Value) (o:Nat) (vs:List Value) (h:o+vs.length<=c.size):(bY c o vs).size=c.size:=by
 simp [bY]; omega
theorem u4 (c:Array Value) (vs:List Value) (h:vs.length=c.size):bY c 0 vs=vs.toArray:=by
 simp [bY,h]
theorem gj {c:Array Value} {o:Nat} {vs:List Value} {p k:Nat} (hf:o+vs.length<=c.size) (h:p+k<=o ∨ o+vs.length<=p):bB (bY c o vs) p k=bB c p k:=by
 apply Mp;intro i;simp only [bB,bY,yI,xI];split
 ·rename_i a
  simp only [List.getElem?_append,bv,iJ,yI,xI,Np];rcases h with h|h
  ·rw [af (by omega),af (by omega),af (by omega)]
  ·rw [ae (by omega)]
   congr 1
   omega
 ·rfl
theorem ft {c:Array Value} {o:Nat} {vs:List Value} (hf:o+vs.length<=c.size):bB (bY c o vs) o vs.length=vs:=by
 simp only [bB,bY];rw [cN,OO (by simp; omega),Cj (by simp; omega),rC,List.take_left]

section
variable {P:Program} {w w0:World} {X:List Nat} {L:List Item} {S:ag} {K:Value->World->Prop}

theorem GG (h:Inv w0 X L S w) {T ty e:TypeId} {k a n:Nat} {z:Value} (u:iB P T=some (e,k,a,z)) (hn:n<=4294967296) (j:a<=65536)
  (hk:∀ b (c:Array Value) w',c.size=n * k->Inv w0 X (L++[.blk b (.cells c e)]) S w'->K (.slice (some ⟨b,0,none⟩) n n) w') :
  Run P (sOp (.makeSlice T (.const (.int .i64 n)) (.const (.int .i64 n))) ty) w K:=by
 obtain ⟨m,i,o,B,p,C,D⟩:=kz u;have q:IntKind.i64.wrap (n:Int)=n:=IntWalk.i64_in _ (by omega);have l:a * n<=2 ^ 48:=g9 (Nat.mul_le_mul j hn) (by decide);have r:¬ ((n:Int)<0):=by omega
 have t:¬ (281474976710656<(i.bytes:Int) * (n:Int)):=by
  rw [C];have:((a * n:Nat):Int)<=((2 ^ 48:Nat):Int):=by exact_mod_cast l
  have e:(((2 ^ 48:Nat)):Int)=281474976710656:=by decide
  rw [e,Int.natCast_mul] at this;omega
 by_cases g:n * k=0
 ·refine Run.of (v:=.slice (some ⟨w.heap.size,0,none⟩) n n) (w':={ w with heap:=w.heap.push (.cells #[] e) }) ?_ (hk _ _ _ (by simp [g]) (h.alloc _));have G:∀ f:Nat->Value,(Array.range 0).map f=#[]:=fun f=>by simp
  simp [sOp,execOp,ev0,evE,Instr.makeSlice,run_underlying m,asInt,asIntOf,typeInfo,o,q,r,t,sizeOf,p,newRow,newObj,Sem.run,g,G]
 ·refine Run.of (v:=.slice (some ⟨w.heap.size,0,none⟩) n n) (w':={ w with heap:=w.heap.push (.cells ((Array.range (n * k)).map (z.cells[· % z.cells.size]!)) e) }) ?_ (hk _ _ _ (by simp) (h.alloc _));simp [sOp,execOp,ev0,evE,Instr.makeSlice,run_underlying m,asInt,asIntOf,typeInfo,o,q,r,t,sizeOf,p,newRow,newObj,Sem.run,g,zeroValue,B]

theorem mW (h:Inv w0 X L S w) {T e:TypeId} {k a:Nat} {z v:Value} (l:iB P T=some (e,k,a,z)) (g:v.cells.size=k) (j:k<=65536) (m:0<k)
  (hk:∀ w',Inv w0 X (L++[.blk w.heap.size (.cells v.cells e)]) S w'->K (.slice (some ⟨w.heap.size,0,none⟩) 1 1) w') :
  Run P (bI T 1 [(0,v)]) w K:=by
 obtain ⟨o,i,p,q,r,C,t⟩:=kz l;refine Run.of (v:=.slice (some ⟨w.heap.size,0,none⟩) 1 1) (w':={ w with heap:=w.heap.push (.cells v.cells e) }) ?_ (hk _ (h.alloc _));have u:¬ (k > 2 ^ 24):=by omega
 have B:¬ k=0:=by omega
 have hf:Instr.fill (fun i=>some (i * k,k)) ((Array.range k).map (z.cells[· % z.cells.size]!)) [(0,v)]=some v.cells:=by
  simp only [Instr.fill,mj,df,g,Array.size_map,Array.size_range,ne_eq,not_true_eq_false,decide_false,gt_iff_lt,Nat.lt_irrefl,Bool.or_self,if_false,pQ];have:=Ii v 0 ((Array.range k).map (z.cells[· % z.cells.size]!)) (by simp [g]);simp only [df] at this;rw [this,u4 _ _ (by simp [g])]
 simp [bI,Instr.buildSlice,run_underlying o,sizeOf,typeInfo,p,r,u,B,zeroValue,q,hf,newRow,newObj,Sem.run]
theorem eQ (h:Inv w0 X L S w) {T e:TypeId} {k g:Nat} {z v:Value} (j:iB P T=some (e,k,g,z)) (l:v.cells.size=k) (a:k<=65536) (i:0<k)
  (hk:∀ b w',Inv w0 X (L++[.blk b (.cells v.cells e)]) S w'->K (.slice (some ⟨b,0,none⟩) 1 1) w') :
  Run P (bI T 1 [(0,v)]) w K:=mW h j l a i (hk _)
theorem fc (h:Inv w0 X L S w) {T e:TypeId} {k a:Nat} {z:Value} (j:iB P T=some (e,k,a,z))
  (hk:∀ v w',Inv w0 X (L++[.row v e k 0 []]) S w'->K v w') :
  Run P (bI T 0 []) w K:=by
 obtain ⟨l,i,m,r,t,g,o⟩:=kz j;have p:Inv w0 X (L++[.row (.slice (some ⟨w.heap.size,0,none⟩) 0 0) e k 0 []]) S { w with heap:=w.heap.push (.cells #[] e) }:=by
  refine h.addItem (w':={ w with heap:=w.heap.push (.cells #[] e) }) ⟨by simp,rfl,rfl,rfl,fun b g=>by simp [Array.getElem?_push,Nat.ne_of_lt g]⟩ ?_ ?_ ?_
  ·exact ⟨by simp,.inr ⟨w.heap.size,0,#[],rfl,aK _,by simp,be _,aK _,by simp,by simp⟩⟩
  ·simp [Item.foot,Value.ownBlock]
  ·simp [Item.foot,Value.ownBlock]
 refine Run.of (v:=.slice (some ⟨w.heap.size,0,none⟩) 0 0) (w':={ w with heap:=w.heap.push (.cells #[] e) }) ?_ (hk _ _ p);have q:∀ f:Nat->Value,(Array.range 0).map f=#[]:=fun f=>by simp
 simp [bI,Instr.buildSlice,run_underlying l,sizeOf,typeInfo,m,Instr.fill,newRow,newObj,Sem.run,q]

theorem Inv.rowNil (h:Inv w0 X L S w) (e:TypeId) (k:Nat):Inv w0 X (L++[.row (.slice none 0 0) e k 0 []]) S w:=
 h.addItem (Grow.refl w) (it:=.row (.slice none 0 0) e k 0 []) (World.ownsRow_nil w 0 e k) (by simp [Item.foot,Value.ownBlock]) (by simp [Item.foot,Value.ownBlock])

theorem Fl {P:Program} (w:World) (T ty e:TypeId) (i:TypeInfo) (z:Value) (D:P.underlying T=some (.slice e)) (G:P.info? e=some i) (U:i.zero=some z)
  {v v':Value} {n m B:Nat} {xs h:List Value} {a:Addr} {w':World} (p:w.ownsRow 0 e i.size v n xs)
  (C:h.length=m * i.size) (l:∀ j u,h[j]?=some u->w.cell? (a.add j)=some u) (Y:∀ u∈h,u.oneCell'=true) (V:n+m<=4294967296) (o:(n+m) * i.bytes<=140737488355328)
  (J:(Builtin.append_ #[T,T] ty #[v,.slice (some a) m B]).run P w=.ok v' w') (t:v'=.slice none 0 0↔v=.slice none 0 0/\m=0) :
  ∀ c,v'.ownBlock=some c->v.ownBlock=some c ∨ w.heap.size<=c:=by
 intro c hc;rcases p.2 with ⟨rfl,rfl⟩|⟨g,cap,M,rfl,_,Z,a0,a1,N,O⟩
 ·by_cases hm:m=0
  ·rw [t.2 ⟨rfl,hm⟩] at hc;simp [Value.ownBlock] at hc
  ·have q:=run_append_nil (P:=P) (w:=w) T ty e i z D G U a m B h C l (by omega) (by omega) (by simp only [df] at o; omega);rw [J] at q;simp only [Result.ok.injEq] at q;rw [q.1] at hc;simp only [Value.ownBlock,bh] at hc;right; omega
 ·by_cases r:n+m<=cap
  ·have q:=run_append_room (P:=P) w T ty e i D G g n cap M Z a m B h C l Y r (by rw [C,N,<- gq]; exact fH _ r);rw [J] at q;simp only [Result.ok.injEq] at q;rw [q.1] at hc;left; exact hc
  ·have q:=run_append_grow (P:=P) (w:=w) T ty e i z D G U ⟨g,0,none⟩ n cap xs p.1 (p.cells (g:=g) rfl) a m B h C l (by omega) (by omega) (growslice_fits (by omega) o);rw [J] at q;simp only [Result.ok.injEq] at q;rw [q.1] at hc;simp only [Value.ownBlock,bh] at hc;right; omega

theorem eU (h:Inv w0 X L S w) {T ty e:TypeId} {k r n m Y b o:Nat} {z v:Value} {cs:List Bool} {xs:List Value} (i:Nat) (g:List Value)
  (hT:iB P T=some (e,k,r,z)) (J:0<k) (Z:L[i]?=some (.row v e k n xs)) (hl:g.length=m * k)
  (B:∀ j u,g[j]?=some u->w.cell? ⟨b,o+j,none⟩=some u) (h1:∀ u∈g,u.oneCell'=true) (t:n+m<=4294967296) (M:r<=32768)
  (hk:∀ v' w',Inv w0 X (L.set i (.row v' e k (n+m) (xs++g))) S w'->K v' w') :
  Run P (bO .append #[T,T] ty cs [v,.slice (some ⟨b,o,none⟩) m Y]) w K:=by
 obtain ⟨hu,C,D,hz,O,hb,U⟩:=kz hT;have q:=h.its _ (fj Z);simp only [Item.holds] at q;have l:(n+m) * r<=140737488355328:=g9 (Nat.mul_le_mul t M) (by decide);have p:∀ j u,g[j]?=some u->w.cell? ((⟨b,o,none⟩:Addr).add j)=some u:=fun j u hj=>by rw [add_lit]; exact B j u hj
 obtain ⟨v',w',hr,h2,G,h4⟩:=run_append_own (P:=P) w 0 T ty e C z k r hu D hz O hb U J v n xs q ⟨b,o,none⟩ m Y g hl
  p h1 (by simp only [maxLen]; omega) l (aK _)
 have V:=Fl (P:=P) w T ty e C z hu D hz (by rw [O]; exact q) (by rw [O]; exact hl) p h1 t (by rw [hb]; exact l) hr h4;refine Run.of (v:=v') (w':=w') ?_ (hk _ _ ?_)
 ·simp [bO,builtin,hr]
 ·refine h.change Z G.size G.os G.tape G.output (fun c hc N=>G.block c hc ?_) (it':=.row v' e k (n+m) (xs++g)) h2 ?_ ?_
  ·intro e';exact N (by simp [Item.foot,<- e'])
  ·intro c hc;simp only [Item.foot,Option.mem_toList] at hc ⊢;exact V c hc
  ·cases v' <;> simp [Item.foot,Value.ownBlock];rename_i a _ _
   cases a <;> simp
end
def Fx (D:Nat->Bool):Nat->List Prop->Prop
 | _,[]=>True
 | k,p::l=>(D k=true->p)/\Fx D (k+1) l
def Rx (D:Nat->Bool):Nat->List Prop->Prop
 | _,[]=>True
 | k,_::l=>D k=true/\Rx D (k+1) l
def RF:List Prop->Prop
 | []=>True
 | p::l=>p/\RF l
theorem Fx.nil:∀ (k:Nat) (l:List Prop),Fx (fun _=>false) k l
 | _,[]=>trivial
 | k,_::l=>⟨aY,Fx.nil (k+1) l⟩
theorem Fx.low {D:Nat->Bool} {m:Nat}:∀ (k:Nat) (l:List Prop),m<k->Fx D k l->Fx (aE D m) k l
 | _,[],_,_=>trivial
 | k,p::l,hm,h=>⟨fun e=>h.1 (by
   have:Nat.beq k m=false:=by rw [cS]; intro a; have:=BL a; omega
   simpa [aE,this] using e),Fx.low (k+1) l (by omega) h.2⟩
theorem Fx.setK {D:Nat->Bool} {p:Prop} (a:p):∀ (m k:Nat) (l:List Prop),Fx D k l->Fx (aE D (k+m)) k (l.set m p)
 | _,_,[],_=>trivial
 | 0,k,q::l,h=>⟨fun _=>a,Fx.low (k+1) l (by omega) h.2⟩
 | m+1,k,q::l,h=>⟨fun e=>h.1 (by
   have:Nat.beq k (k+(m+1))=false:=by rw [cS]; intro g; have:=BL g; omega
   simpa [aE,this] using e),by
   have:=Fx.setK a m (k+1) l h.2
   rwa [show k+1+m=k+(m+1) by omega] at this⟩
theorem Fx.set {D:Nat->Bool} {l:List Prop} (h:Fx D 0 l) (m:Nat) {p:Prop} (a:p):Fx (aE D m) 0 (l.set m p):=by
 have:=Fx.setK a m 0 l h
 rwa [df] at this
theorem Fx.allK {D:Nat->Bool}:∀ (k:Nat) (l:List Prop),Fx D k l->Rx D k l->RF l
 | _,[],_,_=>trivial
 | k,_::l,h,hd=>⟨h.1 hd.1,Fx.allK (k+1) l h.2 hd.2⟩
theorem Fx.all {D:Nat->Bool} {l:List Prop} (h:Fx D 0 l) (a:Rx D 0 l:=by repeat (first|exact trivial|refine And.intro (by assumption) ?_)):RF l:=Fx.allK 0 l h a
def Ur (P:Program) (t:TypeId):Option (List (Nat × TypeId)):=match P.underlying t with
 | some (.struct fs)=>some (fs.toList.map fun f=>(f.offset,f.type))
 | _=>none
end
end Go.Proofs.YtjbcdmheajljpaaGreat
