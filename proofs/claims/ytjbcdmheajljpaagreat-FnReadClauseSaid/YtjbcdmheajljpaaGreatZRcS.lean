/- A verification condition over the model's code, structural in the code, and its soundness: 'vc' gives 'Code.wp', 'calls_of_vc' gives 'Calls'. It speaks of any program. -/
import Derived.Orders
import Derived.Calls
import Derived.Laws.Sem
import Derived.Below
import Derived.Laws.AppendOwn
import Derived.Laws.Cells
import Derived.Laws.CopyRow
import Derived.Laws.Entries
import Derived.IntWalk
import Derived.Lib.IndexBytes
namespace Go.Proofs.YtjbcdmheajljpaaGreat
section
open Go
abbrev W2:=@Array.getElem?_eq_some_iff
abbrev WW:=@Array.getElem?_setIfInBounds_ne
abbrev Ox:=@Array.length_toList
abbrev Da:=@Array.toList_inj
abbrev Jv:=@Array.toList_push
abbrev W4:=@Array.toList_setIfInBounds
abbrev SH:=@Bool.and_eq_false_iff
abbrev bQ:=@Bool.and_eq_true
abbrev zR:=@Bool.and_false
abbrev OS:=@Bool.and_true
abbrev bA:=@Bool.eq_false_iff
abbrev sD:=@Bool.eq_iff_iff
abbrev jm:=@Bool.false_and
abbrev ta:=@Bool.false_eq_true
abbrev jb:=@Bool.false_or
abbrev RT:=@Bool.not_eq_false'
abbrev Tp:=@Bool.not_eq_true
abbrev ry:=@Bool.not_eq_true'
abbrev Ih:=@Bool.not_true
abbrev QN:=@Bool.or_eq_false_iff
abbrev na:=@Bool.or_eq_true
abbrev Rg:=@Bool.or_true
abbrev fk:=@Bool.true_and
abbrev za:=@Bool.true_or
abbrev LG:=@Classical.not_not
abbrev fT:=@Int.le_refl
abbrev RZ:=@Int.le_trans
abbrev dH:=@Int.toNat_natCast
abbrev pw:=@Int.toNat_of_nonneg
abbrev BI:=@Int.zero_add
abbrev rA:=@List.Perm.append_left
abbrev RE:=@List.all_cons
abbrev L3:=@List.all_eq_false
abbrev fF:=@List.all_eq_true
abbrev gF:=@List.any_cons
abbrev cN:=@List.append_assoc
abbrev dk:=@List.append_nil
abbrev uW:=@List.cons.injEq
abbrev dg:=@List.cons_append
abbrev Q0:=@List.drop_append_of_le_length
abbrev Jc:=@List.drop_drop
abbrev ef:=@List.drop_eq_getElem_cons
abbrev uY:=@List.drop_eq_nil_of_le
abbrev eL:=@List.drop_length
abbrev Vp:=@List.drop_succ_cons
abbrev IQ:=@List.drop_take
abbrev fe:=@List.drop_zero
abbrev jM:=@List.eq_nil_of_length_eq_zero
abbrev Xk:=@List.eraseIdx_eq_take_drop_succ
abbrev Oi:=@List.ext_getElem?
abbrev Mi:=@List.flatMap_cons
abbrev y5:=@List.flatten_append
abbrev gR:=@List.flatten_cons
abbrev sU:=@List.flatten_nil
abbrev UF:=@List.getElem?_append_left
abbrev jV:=@List.getElem?_append_right
abbrev mG:=@List.getElem?_cons_succ
abbrev HP:=@List.getElem?_cons_zero
abbrev xy:=@List.getElem?_drop
abbrev me:=@List.getElem?_eq_getElem
abbrev QV:=@List.getElem?_eq_none
abbrev ie:=@List.getElem?_eq_some_iff
abbrev LK:=@List.getElem?_replicate
abbrev BN:=@List.getElem?_set
abbrev M7:=@List.getElem?_set_ne
abbrev Nl:=@List.getElem?_set_self
abbrev wA:=@List.getElem?_take
abbrev qR:=@List.getElem_append_left
abbrev rQ:=@List.getElem_append_right
abbrev UZ:=@List.getElem_cons_succ
abbrev pQ:=@List.getElem_cons_zero
abbrev CU:=@List.getElem_map
abbrev cO:=@List.getElem_mem
abbrev VT:=@List.getElem_of_mem
abbrev Vb:=@List.getElem_replicate
abbrev FA:=@List.getElem_set
abbrev Rj:=@List.getElem_set_ne
abbrev LF:=@List.getElem_set_self
abbrev RP:=@List.getElem_take
abbrev bt:=@List.length_append
abbrev aP:=@List.length_cons
abbrev mj:=@List.length_drop
abbrev ro:=@List.length_map
abbrev ce:=@List.length_nil
abbrev Bf:=@List.length_replicate
abbrev jj:=@List.length_set
abbrev lG:=@List.length_singleton
abbrev ig:=@List.length_take
abbrev zA:=@List.map_append
abbrev Gx:=@List.map_cons
abbrev NW:=@List.map_nil
abbrev cU:=@List.mem_append
abbrev gf:=@List.mem_append_left
abbrev gy:=@List.mem_append_right
abbrev dK:=@List.mem_cons
abbrev bI:=@List.mem_cons_of_mem
abbrev bF:=@List.mem_cons_self
abbrev HE:=@List.mem_iff_getElem
abbrev ob:=@List.mem_map
abbrev f0:=@List.mem_of_getElem?
abbrev QA:=@List.mem_of_mem_drop
abbrev O6:=@List.mem_of_mem_take
abbrev Ag:=@List.mem_or_eq_of_mem_set
abbrev bM:=@List.mem_singleton
abbrev gW:=@List.nil_append
abbrev mK:=@List.nodup_append
abbrev Az:=@List.nodup_nil
abbrev vR:=@List.not_mem_nil
abbrev bD:=@List.perm_append_comm
abbrev zal109:=@List.perm_middle
abbrev Pr:=@List.prefix_refl
abbrev KX:=@List.set_append_left
abbrev z0:=@List.set_append_right
abbrev OX:=@List.set_cons_succ
abbrev sx:=@List.set_eq_take_append_cons_drop
abbrev Pq:=@List.size_toArray
abbrev gV:=@List.sublist_append_left
abbrev fj:=@List.sublist_append_right
abbrev jd:=@List.sublist_cons_self
abbrev KO:=@List.take_append_drop
abbrev Pb:=@List.take_append_of_le_length
abbrev g7:=@List.take_length
abbrev wd:=@List.take_of_length_le
abbrev En:=@List.take_succ_cons
abbrev gt:=@List.take_succ_eq_append_getElem
abbrev EZ:=@List.take_take
abbrev JG:=@List.take_zero
abbrev hY:=@Nat.add_mul
abbrev qx:=@Nat.add_sub_cancel_left
abbrev s4:=@Nat.add_zero
abbrev Ey:=@Nat.eq_of_beq_eq_true
abbrev D1:=@Nat.le_of_ble_eq_true
abbrev aY:=@Nat.le_refl
abbrev vQ:=@Nat.le_succ
abbrev il:=@Nat.le_trans
abbrev KV:=@Nat.lt_or_ge
abbrev Qh:=@Nat.lt_succ_self
abbrev AO:=@Nat.min_eq_left
abbrev AU:=@Nat.mod_lt
abbrev Kl:=@Nat.mul_le_mul
abbrev fK:=@Nat.mul_le_mul_right
abbrev oD:=@Nat.one_mul
abbrev JT:=@Nat.pow_le_pow_right
abbrev fB:=@Nat.sub_self
abbrev Je:=@Nat.sub_zero
abbrev ip:=@Nat.succ_mul
abbrev cS:=@Nat.zero_add
abbrev aT:=@Nat.zero_le
abbrev l5:=@Nat.zero_mul
abbrev fi:=@Option.bind_eq_some_iff
abbrev dq:=@Option.bind_some
abbrev Ke:=@Option.getD_some
abbrev Gy:=@Option.isSome_iff_exists
abbrev fV:=@Option.map_eq_some_iff
abbrev jz:=@Option.map_some
abbrev JK:=@Option.some.inj
abbrev bj:=@Option.some.injEq
abbrev c9:=@Prod.mk.injEq
abbrev cW:=@decide_eq_decide
abbrev aM:=@decide_eq_false
abbrev nu:=@decide_eq_false_iff_not
abbrev aD:=@decide_eq_true
abbrev bK:=@decide_eq_true_eq
abbrev ae:=@if_neg
abbrev ag:=@if_pos
abbrev vY:=@or_false
abbrev v6:=@true_and
theorem aU {P:Prop} (h:false=true):P:=Bool.noConfusion h

abbrev Env:=Nat->Value
def upd (ρ:Env) (d:Nat) (v:Value):Env:=fun t=>match Nat.beq t d with
 | true=>v
 | false=>ρ t
def uj (ρ:Env) (dst:Option Nat) (v:Value):Env:=match dst with
 | some d=>upd ρ d v
 | none=>ρ
def evE (ρ:Env):Operand->Value
 | .tmp t=>ρ t
 | .const v=>v
 | .global g=>.pointer (some ⟨g,0,none⟩)
 | .func f=>.func (.func f) #[] #[]

def Run (P:Program) (s:Sem Next) (w:World) (K:Value->World->Prop):Prop:=
 match s.run P w with
 | .ok (.value v) w'=>K v w'
 | .ok .skip w'=>K undef w'
 | .ok (.enter f args) w'=>Calls P f args w' fun
   | .returned v,w''=>K v w''
   | _,_=>False
 | _=>False

def ev0:Operand->Value:=evE fun _=>undef
def sOp (op:Op) (ty:TypeId):Sem Next:=execOp ev0 ⟨none,op,ty,"",#[],none⟩
def el (op:BinOp) (T:TypeId) (cx cy:Bool) (x y:Value):Sem Next:=do
 eqGuard op T (bif cx then .const x else .tmp 0) (bif cy then .const y else .tmp 0) x y
 pure (.value (<- binOp op T x y))
def cr (T:TypeId) (ps:List (Nat × Value)):Sem Next:=do pure (.value (<- Instr.build T ps.toArray))
def cf (T:TypeId) (n:Nat) (ps:List (Nat × Value)):Sem Next:=do pure (.value (<- Instr.buildSlice T n ps.toArray))
def fY (fn:Fn) (first captured:List Value):Sem Next:=do pure (.value (<- Instr.makeFunc fn first.toArray captured.toArray))
def gn (f:Value) (args:List Value):Sem Next:=do
 let d <- Deferred.ofValue f args.toArray
 invoke d.target d.args
def co (b:Builtin) (ts:Array TypeId) (ty:TypeId) (cs:List Bool) (args:List Value):Sem Next:=
 builtin b ts ty cs.toArray args.toArray
def isC:Operand->Bool
 | .const _=>true
 | _=>false
def cl (ρ:Env) (x:Operand):Operand:=.const (evE ρ x)
def Zh (ρ:Env):Op->Op
 | .pick c a b=>.pick (cl ρ c) (cl ρ a) (cl ρ b)
 | .alloc e=>.alloc e
 | .box e v=>.box e (cl ρ v)
 | .load t a=>.load t (cl ρ a)
 | .store t a v=>.store t (cl ρ a) (cl ρ v)
 | .nilCheck x=>.nilCheck (cl ρ x)
 | .unOp o t x=>.unOp o t (cl ρ x)
 | .convert s d x=>.convert s d (cl ρ x)
 | .makeInterface t x=>.makeInterface t (cl ρ x)
 | .makeMap t r=>.makeMap t (r.map (cl ρ))
 | .makeSlice t l c=>.makeSlice t (cl ρ l) (cl ρ c)
 | .slice t x l h m=>.slice t (cl ρ x) (l.map (cl ρ)) (h.map (cl ρ)) (m.map (cl ρ))
 | .fieldAddr t x f=>.fieldAddr t (cl ρ x) f
 | .field t x f=>.field t (cl ρ x) f
 | .indexAddr t x i=>.indexAddr t (cl ρ x) (cl ρ i)
 | .index t x i=>.index t (cl ρ x) (cl ρ i)
 | .lookup t x i ok=>.lookup t (cl ρ x) (cl ρ i) ok
 | .mapUpdate t m k v=>.mapUpdate t (cl ρ m) (cl ρ k) (cl ρ v)
 | .range t x=>.range t (cl ρ x)
 | .next x b=>.next (cl ρ x) b
 | .extract t i=>.extract (cl ρ t) i
 | .typeAssert x t a ok=>.typeAssert (cl ρ x) t a ok
 | op=>op
def XV:Op->Bool
 | .pick ..|.alloc ..|.box ..|.load ..|.store ..|.nilCheck ..|.unOp ..|.convert ..|.makeInterface ..|.makeMap ..|.makeSlice ..|.slice ..
 | .fieldAddr ..|.field ..|.indexAddr ..|.index ..|.lookup ..|.mapUpdate ..|.range ..|.next ..|.extract ..|.typeAssert ..=>true
 | _=>false
def MK (ρ:Env) (o:Oper):Sem Next:=match o.op with
 | .binOp op T x y _=>el op T (isC x) (isC y) (evE ρ x) (evE ρ y)
 | .build t ps=>cr t (ps.toList.map fun p=>(p.1,evE ρ p.2))
 | .buildSlice t n ps=>cf t n (ps.toList.map fun p=>(p.1,evE ρ p.2))
 | .makeFunc fn a b=>fY fn (a.toList.map (evE ρ)) (b.toList.map (evE ρ))
 | .call c=>match c.callee with
  | .value f=>gn (evE ρ f) (c.args.toList.map (evE ρ))
  | .builtin b=>co b c.argTypes o.type (c.args.toList.map isC) (c.args.toList.map (evE ρ))
  | .invoke ..=>execOp (evE ρ) o
 | op=>match XV op with
  | true=>sOp (Zh ρ op) o.type
  | false=>execOp (evE ρ) o

def stepE (P:Program) (o:Oper) (ρ:Env) (w:World) (K:Value->World->Prop):Prop:=match o.op with
 | .move x|.assign x=>K (evE ρ x) w
 | _=>Run P (MK ρ o) w K

def aI (v:Value) (b:Bool) (A B:Prop):Prop:=match v with
 | .bool c=>if c=b then A else B
 | _=>B
def GuardO (ops:List Oper) (ρ:Env) (g:Option (Nat × Bool)) (A B:Prop):Prop:=match g with
 | none=>A
 | some (j,b)=>match (ops[j]?).bind (·.dst) with
  | some d=>aI (ρ d) b A B
  | none=>B

def opE (P:Program) (ops:List Oper) (o:Oper) (ρ:Env) (w:World) (K:Env->World->Prop):Prop:=
 GuardO ops ρ o.guard (stepE P o ρ w fun v w'=>K (uj ρ o.dst v) w') (K (uj ρ o.dst undef) w)

def kU (g h:Option (Nat × Bool)):Bool:=match g,h with
 | some (i,a),some (j,b)=>Nat.beq i j && (a == b)
 | none,none=>true
 | _,_=>false
def grp (g:Option (Nat × Bool)):List Oper->List Oper
 | []=>[]
 | o::os=>match kU g o.guard with
  | true=>o::grp g os
  | false=>[]
def nN (g:Option (Nat × Bool)):List Oper->List Oper
 | []=>[]
 | o::os=>match kU g o.guard with
  | true=>nN g os
  | false=>o::os
def R4 (P:Program):List Oper->Env->World->(Env->World->Prop)->Prop
 | [],ρ,w,K=>K ρ w
 | o::os,ρ,w,K=>stepE P o ρ w fun v w'=>R4 P os (uj ρ o.dst v) w' K
def Nk:List Oper->Env->Env
 | [],ρ=>ρ
 | o::os,ρ=>Nk os (uj ρ o.dst undef)
def Cg (P:Program) (all:List Oper) (n:Nat):List Oper->Env->World->(Env->World->Prop)->Prop:=
 Nat.rec (fun _ _ _ _=>False) (fun _ ih l ρ w K=>match l with
  | []=>K ρ w
  | o::os=>match o.guard with
   | none=>stepE P o ρ w fun v w'=>ih os (uj ρ o.dst v) w' K
   | some g=>GuardO all ρ (some g)
     (R4 P (o::grp (some g) os) ρ w fun ρ' w'=>ih (nN (some g) os) ρ' w' K)
     (ih (nN (some g) os) (Nk (o::grp (some g) os) ρ) w K)) n

def aF (D:Nat->Bool) (i:Nat):Nat->Bool:=fun j=>bif Nat.beq j i then true else D j
def vf:List Edge->(Nat->Bool)->Prop->Prop
 | [],_,p=>p
 | e::es,D,p=>match Region.binds .any e with
  | true=>D e.on=true->vf es D p
  | false=>vf es D p
def wK:Nat->(Nat->Bool)->Prop->Prop
 | 0,_,p=>p
 | n+1,D,p=>D n=true->wK n D p
def Cur (α:Type):List Nat->Type
 | []=>α
 | _::l=>Value->Cur α l
def ap {α:Type}:(l:List Nat)->Cur α l->Env->α
 | [],f,_=>f
 | m::l,f,ρ=>ap l (f (ρ m)) ρ
def mu:List Nat->Env->(Env->Prop)->Prop
 | [],ρ,p=>p ρ
 | m::l,ρ,p=>∀ x:Value,mu l (upd ρ m x) p

def oY:List Oper->List Nat->List Nat
 | [],l=>l
 | o::os,l=>match o.dst with
  | some d=>match l.elem d with
   | true=>oY os l
   | false=>oY os (d::l)
  | none=>oY os l
def AV (P:Program) (all:List Oper) (M:List Nat) (A:(Nat->Bool)->Cur (World->Prop) M) (ρ:Env):Nat->List Oper->Prop
 | _,[]=>True
 | i,o::os=>(∀ D,D i=false->vf o.after.toList D (mu M ρ fun ρ'=>∀ w',ap M (A D) ρ' w'->
   opE P all o ρ' w' fun ρ'' w''=>ap M (A (aF D i)) ρ'' w''))/\AV P all M A ρ (i+1) os
def Qi (P:Program) (ops:List Oper) (ρ:Env) (w:World) (K:Env->World->Prop):Prop:=
 ∃ A:(Nat->Bool)->Cur (World->Prop) (oY ops []),ap (oY ops []) (A fun _=>false) ρ { w with drawn:=w.drawn+1 }/\
  AV P ops (oY ops []) A ρ 0 ops/\
  ∀ D,wK ops.length D (mu (oY ops []) ρ fun ρ'=>∀ w',ap (oY ops []) (A D) ρ' w'->K ρ' w')

inductive An where
 | leaf
 | seq (cut:Option (List Nat)) (l r:An)
 | two (l r:An)
 | one (l:An)
 | loop (live:List Nat) (l:An)
def An.cut:An->Option (List Nat)
 | .seq c _ _=>c
 | _=>none
def An.l:An->An
 | .seq _ a _|.two a _|.one a|.loop _ a=>a
 | .leaf=>.leaf
def An.r:An->An
 | .seq _ _ b|.two _ b=>b
 | _=>.leaf
def An.live:An->List Nat
 | .loop l _=>l
 | _=>[]

def wr:Code->List Nat->List Nat
 | .region _ ops _,l=>oY ops.toList l
 | .seq a b,l=>wr b (wr a l)
 | .cond _ a b,l=>wr b (wr a l)
 | .block _ a,l|.loop a,l|.scope a,l=>wr a l
 | _,l=>l

abbrev B5 (K:Env->World->Prop) (Q:Exit->Env->World->Prop):Exit->Env->World->Prop
 | .normal,ρ,w=>K ρ w
 | e,ρ,w=>Q e ρ w
abbrev Qk (id:Nat) (Q:Exit->Env->World->Prop):Exit->Env->World->Prop
 | .exit id',ρ,w=>match Nat.beq id' id with
  | true=>Q .normal ρ w
  | false=>Q (.exit id') ρ w
 | e,ρ,w=>Q e ρ w

def CondV (v:Value) (A B:Prop):Prop:=match v with
 | .bool c=>if c=true then A else B
 | _=>False

def vc (P:Program):Code->An->(Exit->Env->World->Prop)->Env->World->Prop
 | .skip,_,Q,ρ,w=>Q .normal ρ w
 | .ret,_,Q,ρ,w=>Q .ret ρ w
 | .exit id,_,Q,ρ,w=>Q (.exit id) ρ w
 | .region _ ops draw,_,Q,ρ,w=>
  match draw with
  | true=>Qi P ops.toList ρ w (Q .normal)
  | false=>Cg P ops.toList (ops.toList.length+1) ops.toList ρ w (Q .normal)
 | .seq a b,an,Q,ρ,w=>match an.cut with
  | none=>vc P a an.l (B5 (vc P b an.r Q) Q) ρ w
  | some lv=>∃ J:Cur (World->Prop) lv,vc P a an.l (B5 (ap lv J) Q) ρ w/\
    mu (wr a []) ρ fun ρ'=>∀ w',ap lv J ρ' w'->vc P b an.r Q ρ' w'
 | .cond c a b,an,Q,ρ,w=>CondV (evE ρ c) (vc P a an.l Q ρ w) (vc P b an.r Q ρ w)
 | .block id a,an,Q,ρ,w=>vc P a an.l (Qk id Q) ρ w
 | .loop a,an,Q,ρ,w=>∃ (I:Cur (World->Prop) an.live) (μ:Cur (World->Nat) an.live),ap an.live I ρ w/\
   mu (wr a []) ρ fun ρ'=>∀ w',ap an.live I ρ' w'->
    vc P a an.l (B5 (fun ρ'' w''=>ap an.live I ρ'' w''/\ap an.live μ ρ'' w''<ap an.live μ ρ' w') Q) ρ' w'
 | _,_,_,_,_=>False
end
section
open Go

def Tl (n:Nat):Operand->Bool
 | .tmp t=>Nat.blt t n
 | _=>true
def RU:Op->Bool
 | .select _ _=>false
 | _=>true
def Jh (n:Nat):Option Nat->Bool
 | some d=>Nat.blt d n
 | none=>true
def kT (j d:Nat):Nat->List Oper->Bool
 | _,[]=>true
 | i,o::os=>(Nat.beq i j || !(o.dst == some d)) && kT j d (i+1) os
def pB (n:Nat) (all:List Oper):Option (Nat × Bool)->Bool
 | none=>true
 | some (j,_)=>match (all[j]?).bind (·.dst) with
  | some d=>Nat.blt d n && kT j d 0 all
  | none=>false
def oc (n:Nat) (all:List Oper) (o:Oper):Bool:=
 RU o.op && Jh n o.dst && o.op.operands.toList.all (Tl n) && pB n all o.guard
def QY (i:Nat):List Edge->Bool
 | []=>true
 | e::es=>(!Region.binds .any e || Nat.blt e.on i) && QY i es
def FN:Nat->List Oper->Bool
 | _,[]=>true
 | i,o::os=>QY i o.after.toList && FN (i+1) os
def lr:Nat->List Oper->Bool
 | _,[]=>true
 | i,o::os=>(match o.guard with|none=>true|some (j,_)=>Nat.blt j i) && lr (i+1) os
def z6 (n:Nat):Code->Bool
 | .skip|.ret|.exit _=>true
 | .region _ ops draw=>ops.toList.all (oc n ops.toList) && lr 0 ops.toList && (!draw || FN 0 ops.toList)
 | .seq a b=>z6 n a && z6 n b
 | .cond c a b=>Tl n c && z6 n a && z6 n b
 | .block _ a|.loop a=>z6 n a
 | _=>false

structure Rel (n:Nat) (ρ:Env) (a:Act):Prop where
 size:a.tmps.size=n
 at_:∀ t,t<n->a.tmps[t]?=some (ρ t)
 out:∀ t,n<=t->ρ t=undef
 defers:a.defers=[]

theorem Rel.eval {n:Nat} {ρ:Env} {a:Act} (h:Rel n ρ a) {x:Operand} (g:Tl n x=true):a.eval x=evE ρ x:=by
 cases x with
 | tmp t=>
  have i:t<n:=by simpa [Tl,Nat.blt_eq] using g
  simp [Act.eval,evE,Array.getD_eq_getD_getElem?,h.at_ t i]
 | _=>rfl

theorem D9 (ρ:Env) (d:Nat) (v:Value):upd ρ d v d=v:=by simp [upd]
theorem sS (ρ:Env) {d t:Nat} (v:Value) (h:t≠d):upd ρ d v t=ρ t:=by
 have:Nat.beq t d=false:=by simpa [<- Bool.not_eq_true] using h
 simp [upd,this]

theorem Rel.put {n:Nat} {ρ:Env} {a:Act} (h:Rel n ρ a) {g:Option Nat} (j:Jh n g=true) (v:Value) :
  Rel n (uj ρ g v) (a.put g v):=by
 cases g with
 | none=>exact h
 | some d=>
  have l:d<n:=by simpa [Jh,Nat.blt_eq] using j
  refine ⟨by simp [Act.put,h.size],fun t i=>?_,fun t i=>by rw [uj,sS ρ v (by omega)]; exact h.out t i,h.defers⟩;by_cases e:t=d
  ·subst e;simp [Act.put,uj,D9,h.size,i]
  ·simp only [Act.put,uj,sS ρ v e];rw [WW (by omega)];exact h.at_ t i

theorem Ps {n:Nat} {ρ:Env} {a:Act} (h:Rel n ρ a) {o:Oper} (g:RU o.op=true)
  (i:o.op.operands.toList.all (Tl n)=true):execOp a.eval o=execOp (evE ρ) o:=by
 refine execOp_congr o ?_ ?_
 ·intro cs b e; rw [e] at g; simp [RU] at g
 ·intro x j;exact h.eval (fF.1 i x (Array.mem_toList_iff.2 j))

theorem RV (ρ:Env) (o:Oper):execOp (evE ρ) o=MK ρ o:=by
 obtain ⟨C,op,q,D,j,p⟩:=o;cases op <;> try rfl
 case binOp op T x y u=>
  have M:∀ (x:Operand),(match (bif isC x then Operand.const (evE ρ x) else .tmp 0) with|.const _=>true|_=>false)=(match x with|.const _=>true|_=>false):=by
   intro x; cases x <;> rfl
  simp only [execOp,MK,el];have G:eqGuard op T x y (evE ρ x) (evE ρ y)=eqGuard op T (bif isC x then Operand.const (evE ρ x) else .tmp 0) (bif isC y then Operand.const (evE ρ y) else .tmp 0) (evE ρ x) (evE ρ y):=by
   cases x <;> cases y <;> rfl
  rw [G];exact bind_assoc _ _ _
 case build t ps=>
  simp only [execOp,MK,cr]
  congr 2
  exact (Da.1 (by simp))
 case buildSlice t n ps=>
  simp only [execOp,MK,cf]
  congr 2
  exact (Da.1 (by simp))
 case makeFunc fn a b=>
  simp only [execOp,MK,fY]
  congr 2
  ·exact (Da.1 (by simp))
  ·exact (Da.1 (by simp))
 case makeMap t r=>cases r <;> rfl
 case slice t x l h m=>cases l <;> cases h <;> cases m <;> rfl
 case call c=>
  obtain ⟨g,args,i⟩:=c;have B:args.map (evE ρ)=(args.toList.map (evE ρ)).toArray:=Da.1 (by simp);cases g with
  | value f=>
   simp only [execOp,MK,gn,resolve,B]
  | builtin b=>
   have J:(args.map fun (x:Operand)=>(match x with|.const _=>true|_=>false))=(args.toList.map isC).toArray:=Da.1 (by
    simp only [Array.toList_map]
    congr 1)
   simp only [execOp,MK,co,resolve,B];rw [<- J];rfl
  | invoke r m=>rfl

theorem stepE.run {P:Program} {o:Oper} {ρ:Env} {w:World} {K:Value->World->Prop} (h:stepE P o ρ w K):Run P (execOp (evE ρ) o) w K:=by
 rw [RV];obtain ⟨j,op,i,l,a,g⟩:=o;cases op <;> exact h
theorem Run.step {P:Program} {o:Oper} {ρ:Env} {w:World} {K:Value->World->Prop} (h:Run P (execOp (evE ρ) o) w K):stepE P o ρ w K:=by
 rw [RV] at h;obtain ⟨j,op,i,l,a,g⟩:=o;cases op <;> exact h
theorem Run.mono {P:Program} {s:Sem Next} {w:World} {K K':Value->World->Prop} (h:Run P s w K) (hk:∀ v w,K v w->K' v w) :
  Run P s w K':=by
 unfold Run at *;split at h
 ·exact hk _ _ h
 ·exact hk _ _ h
 ·exact Calls.mono h fun e w' a=>by cases e <;> first|exact hk _ _ a|exact a
 ·exact h.elim

theorem stepE.mono {P:Program} {o:Oper} {ρ:Env} {w:World} {K K':Value->World->Prop} (h:stepE P o ρ w K) (hk:∀ v w,K v w->K' v w) :
  stepE P o ρ w K':=Run.step (Run.mono h.run hk)

theorem Run.wp {P:Program} {n:Nat} {ρ:Env} {a:Act} {w:World} {o:Oper} {K:Value->World->Prop} {next:Act->World->Prop}
  {Q:Exit->Act->World->Prop} (i:Rel n ρ a) (j:RU o.op=true) (l:o.op.operands.toList.all (Tl n)=true)
  (h:Run P (execOp (evE ρ) o) w K) (hk:∀ v w',K v w'->next (a.put o.dst v) w'):o.wp P a w next Q:=by
 unfold Oper.wp;rw [Ps i j l];unfold Run at h;split at h
 ·rename_i e; rw [e]; exact hk _ _ h
 ·rename_i e; rw [e]; exact hk _ _ h
 ·rename_i e; rw [e]
  exact Calls.mono h fun e w' g=>by cases e <;> first|exact hk _ _ g|exact g.elim
 ·exact h.elim

theorem xf {n:Nat} {ρ:Env} {a:Act} (p:Rel n ρ a) {ops:Array Oper} {o:Oper} {A B:Prop}
  (i:pB n ops.toList o.guard=true) (h:GuardO ops.toList ρ o.guard A B) :
  (Region.wanted o (yielded ops a.tmps)=true/\A) ∨ (Region.wanted o (yielded ops a.tmps)=false/\B):=by
 unfold Region.wanted;cases l:o.guard with
 | none=>rw [l] at h; exact .inl ⟨rfl,h⟩
 | some g=>
  obtain ⟨j,b⟩:=g;rw [l] at h i;simp only [GuardO,pB,yielded,Array.getElem?_toList] at *;cases m:(ops[j]?).bind (·.dst) with
  | none=>rw [m] at i; simp at i
  | some d=>
   rw [m] at h i;simp only [bQ,Nat.blt_eq] at i;simp only [dq,p.at_ d i.1];simp only [aI] at h;split at h
   ·rename_i c hc
    rw [hc];split at h
    ·rename_i e; subst e; exact .inl ⟨by simp,h⟩
    ·rename_i e; exact .inr ⟨by simpa using e,h⟩
   ·rename_i q
    refine .inr ⟨?_,h⟩;cases hc:ρ d <;> first|exact absurd hc (q _)|simp

theorem zX {P:Program} {n:Nat} {ops:Array Oper} {o:Oper} {ρ:Env} {a:Act} {w:World} {K:Env->World->Prop}
  {next:Act->World->Prop} {Q:Exit->Act->World->Prop} {i:Nat} (l:ops[i]?=some o) (j:Rel n ρ a) (hf:oc n ops.toList o=true)
  (h:opE P ops.toList o ρ w K) (hk:∀ v w',K (uj ρ o.dst v) w'->next (a.put o.dst v) w') :
  wpOp P ops Q i next a w:=by
 simp only [oc,bQ] at hf;obtain ⟨⟨⟨m,B⟩,p⟩,q⟩:=hf;unfold wpOp;rw [l];simp only [];rcases xf j q h with ⟨g,r⟩|⟨g,t⟩
 ·rw [ag g]; exact .inl (r.run.wp j m p hk)
 ·rw [ae (by simp [g])]; exact hk _ _ t

theorem tD (i m:Nat):List.range' i (m+1)=i::List.range' (i+1) m:=rfl

theorem nn {j d:Nat}:∀ (l:List Oper) (k:Nat),kT j d k l=true->∀ i o,l[i]?=some o->k+i≠j->o.dst≠some d
 | [],_,_,i,o,hi,_=>by simp at hi
 | x::xs,k,h,i,o,hi,hne=>by
  simp only [kT,bQ,na,Nat.beq_eq,ry,beq_eq_false_iff_ne] at h;cases i with
  | zero=>
   simp only [HP,bj] at hi;subst hi;rcases h.1 with e|e
   ·exact absurd (by simpa using e) (by omega)
   ·exact e
  | succ i=>
   rw [mG] at hi;exact nn xs (k+1) h.2 i o hi (by omega)

theorem GY {g h:Option (Nat × Bool)}:kU g h=true↔g=h:=by
 cases g <;> cases h <;> simp [kU,Prod.ext_iff]

theorem AA (g:Option (Nat × Bool)):∀ l:List Oper,l=grp g l++nN g l
 | []=>rfl
 | o::os=>by
  simp only [grp,nN];cases h:kU g o.guard <;> simp;exact AA g os
theorem Rp (g:Option (Nat × Bool)):∀ (l:List Oper) (o:Oper),o∈grp g l->o.guard=g
 | [],_,h=>by simp [grp] at h
 | x::xs,o,h=>by
  simp only [grp] at h;cases e:kU g x.guard with
  | false=>rw [e] at h; simp at h
  | true=>
   rw [e] at h;rcases dK.1 h with rfl|h
   ·exact (GY.1 e).symm
   ·exact Rp g xs o h
theorem wx (g:Option (Nat × Bool)):∀ l:List Oper,(nN g l).length<=l.length
 | []=>by simp [nN]
 | x::xs=>by
  simp only [nN];cases kU g x.guard
  ·simp
  ·simpa using Nat.le_succ_of_le (wx g xs)

section ops
variable {P:Program} {n:Nat} {ops:Array Oper} {Q:Exit->Act->World->Prop}
def EM (n:Nat) (ops:Array Oper):Prop:=∀ o∈ops.toList,oc n ops.toList o=true

theorem Ei (hf:EM n ops) {j d:Nat} {b:Bool} (C:(ops.toList[j]?).bind (·.dst)=some d) :
  ∀ (l:List Oper) (i:Nat) (ρ:Env) (a:Act) (w:World) (K:Env->World->Prop) (g:List Nat),
   (∀ k o,l[k]?=some o->ops.toList[i+k]?=some o/\o.guard=some (j,b))->j<i->ρ d=.bool b->Rel n ρ a->R4 P l ρ w K->
   (∀ p U w',Rel n p U->K p w'->wpOps P ops Q g U w')->wpOps P ops Q (List.range' i l.length++g) a w
 | [],i,ρ,a,w,K,g,_,_,_,hr,h,hk=>hk _ _ _ hr h
 | o::os,i,ρ,a,w,K,g,hl,hji,hd,hr,h,hk=>by
  obtain ⟨B,O⟩:=hl 0 o rfl;rw [s4] at B;have Z:o∈ops.toList:=f0 B;have q:=hf o Z;have J:ops[i]?=some o:=by simpa using B
  have m:=q;simp only [oc,bQ] at m;obtain ⟨⟨⟨h1,Y⟩,h3⟩,G⟩:=m;have M:kT j d 0 ops.toList=true:=by
   rw [O] at G; simp only [pB,C,bQ] at G; exact G.2
  have N:o.dst≠some d:=nn _ 0 M i o B (by omega);rw [aP,tD,dg,wpOps_cons];refine zX (ρ:=ρ) (w:=w) (K:=fun p w'=>(p d=.bool b)/\R4 P os p w' K) J hr q ?_ ?_
  ·unfold opE;rw [O];simp only [GuardO,C,aI,hd,if_true];refine stepE.mono h fun v w' t=>⟨?_,t⟩
   cases r:o.dst with
   | none=>exact hd
   | some e=>rw [uj,sS]; exact hd; intro V; exact N (by rw [r,V])
  ·intro v w' t;exact Ei hf C os (i+1) _ _ w' K g (fun k o' D=>by
    have:=hl (k+1) o' (by simpa using D);rw [show i+1+k=i+(k+1) by omega]; exact this) (by omega) t.1 (hr.put Y v) t.2 hk

theorem CF (hf:EM n ops) {j d:Nat} {b:Bool} (r:(ops.toList[j]?).bind (·.dst)=some d) :
  ∀ (l:List Oper) (i:Nat) (ρ:Env) (a:Act) (w:World) (g:List Nat),
   (∀ k o,l[k]?=some o->ops.toList[i+k]?=some o/\o.guard=some (j,b))->j<i->ρ d≠.bool b->Rel n ρ a->
   (∀ N,Rel n (Nk l ρ) N->wpOps P ops Q g N w)->wpOps P ops Q (List.range' i l.length++g) a w
 | [],i,ρ,a,w,g,_,_,_,hr,hk=>hk _ hr
 | o::os,i,ρ,a,w,g,hl,hji,hd,hr,hk=>by
  obtain ⟨q,M⟩:=hl 0 o rfl;rw [s4] at q;have V:o∈ops.toList:=f0 q;have B:=hf o V;have C:ops[i]?=some o:=by simpa using q
  have h:=B;simp only [oc,bQ] at h;obtain ⟨⟨⟨h1,U⟩,h3⟩,m⟩:=h;have D:kT j d 0 ops.toList=true:=by
   rw [M] at m; simp only [pB,r,bQ] at m; exact m.2
  have G:o.dst≠some d:=nn _ 0 D i o q (by omega);have J:uj ρ o.dst undef d=ρ d:=by
   cases p:o.dst with
   | none=>rfl
   | some e=>rw [uj,sS]; intro O; exact G (by rw [p,O])
  rw [aP,tD,dg,wpOps_cons];have Y:=m;have Z:GuardO ops.toList ρ o.guard False True:=by
   rw [M]; simp only [GuardO,r,aI];split
   ·rename_i c hc
    split
    ·rename_i e; subst e; exact absurd hc hd
    ·trivial
   ·trivial
  rcases xf hr m Z with ⟨_,hF⟩|⟨hw,_⟩
  ·exact hF.elim
  ·unfold wpOp;rw [C];simp only [hw,ta,if_false];exact CF hf r os (i+1) _ _ w g (fun k o' t=>by
    have:=hl (k+1) o' (by simpa using t);rw [show i+1+k=i+(k+1) by omega]; exact this) (by omega) (by rw [J]; exact hd) (hr.put U undef) hk

theorem ri:∀ (l:List Oper) (k:Nat),lr k l=true->∀ i o j b,l[i]?=some o->o.guard=some (j,b)->j<k+i
 | [],_,_,i,o,_,_,hi,_=>by simp at hi
 | x::xs,k,h,i,o,j,b,hi,hg=>by
  simp only [lr,bQ] at h;cases i with
  | zero=>
   simp only [HP,bj] at hi;subst hi;have:=h.1;rw [hg] at this;simpa [Nat.blt_eq] using this
  | succ i=>
   rw [mG] at hi;have:=ri xs (k+1) h.2 i o j b hi hg;omega

theorem Mf (hf:EM n ops) (hb:lr 0 ops.toList=true) :
  ∀ (m:Nat) (l:List Oper) (i:Nat) (ρ:Env) (a:Act) (w:World) (K:Env->World->Prop),l.length<m->
   ops.toList.drop i=l->Rel n ρ a->Cg P ops.toList m l ρ w K->
   (∀ J M w',Rel n J M->K J w'->Q .normal M w')->wpOps P ops Q (List.range' i l.length) a w:=by
 intro m;induction m with
 | zero=>intro l i ρ a w K D; omega
 | succ m ih=>
  intro l i ρ a w K D hl U h hk;cases l with
  | nil=>exact hk _ _ _ U h
  | cons o os=>
   have r:∀ k,(o::os)[k]?=ops.toList[i+k]?:=fun k=>by rw [<- hl,xy]
   have h0:ops.toList[i]?=some o:=by have:=r 0; simpa using this.symm
   have hm:o∈ops.toList:=f0 h0;have V:=hf o hm;have a1:ops[i]?=some o:=by simpa using h0
   have t:=V;simp only [oc,bQ] at t;obtain ⟨⟨⟨h1,h2⟩,h3⟩,h4⟩:=t;have a2:ops.toList.drop (i+1)=os:=by rw [<- Jc,hl]; rfl
   simp only [Cg] at h ih;cases N:o.guard with
   | none=>
    rw [N] at h;simp only [] at h;rw [aP,tD,wpOps_cons];refine zX (ρ:=ρ) (w:=w) (K:=fun J w'=>Cg P ops.toList m os J w' K) a1 U V ?_ ?_
    ·unfold opE; rw [N]; exact h
    ·intro v w' hh;exact ih os (i+1) _ _ w' K (by simp at D; omega) a2 (U.put h2 v) hh hk
   | some g=>
    obtain ⟨j,b⟩:=g;rw [N] at h;simp only [] at h;have p:=AA (some (j,b)) os;have Y:j<i:=by have:=ri _ 0 hb i o j b h0 N; omega
    obtain ⟨d,hj⟩:∃ d,(ops.toList[j]?).bind (·.dst)=some d:=by
     rw [N] at h4;simp only [pB] at h4;cases O:(ops.toList[j]?).bind (·.dst) with
     | none=>rw [O] at h4; simp at h4
     | some d=>exact ⟨d,rfl⟩
    have B:∀ k x,(o::grp (some (j,b)) os)[k]?=some x->ops.toList[i+k]?=some x/\x.guard=some (j,b):=by
     intro k x hx;have a3:(o::os)[k]?=some x:=by
      rw [p,<- dg,UF]
      ·exact hx
      ·exact (ie.1 hx).1
     refine ⟨by rw [<- r k]; exact a3,?_⟩;rcases dK.1 (f0 hx) with rfl|a0
     ·exact N
     ·exact Rp _ _ _ a0
    have Z:(o::os).length=(o::grp (some (j,b)) os).length+(nN (some (j,b)) os).length:=by
     have:=congrArg List.length p;simp only [bt] at this;simp only [aP]; omega
    have q:ops.toList.drop (i+(o::grp (some (j,b)) os).length)=nN (some (j,b)) os:=by
     rw [<- Jc,hl];have e:o::os=(o::grp (some (j,b)) os)++nN (some (j,b)) os:=by rw [dg,<- p]
     rw [e,List.drop_left]
    have C:(nN (some (j,b)) os).length<m:=by
     have:=wx (some (j,b)) os;simp at D; omega
    rw [Z,<- List.range'_append_1];simp only [GuardO,hj] at h;by_cases O:ρ d=.bool b
    ·rw [O] at h;simp only [aI,if_true] at h;exact Ei hf hj _ i ρ a w _ _ B Y O U h fun J M w' G hh=>ih _ _ J M w' K C q G hh hk
    ·have hB:Cg P ops.toList m (nN (some (j,b)) os) (Nk (o::grp (some (j,b)) os) ρ) w K:=by
      simp only [aI] at h;split at h
      ·rename_i c hc
       split at h
       ·rename_i e; subst e; exact absurd hc O
       ·exact h
      ·exact h
     exact CF hf hj _ i ρ a w _ B Y O U fun M G=>ih _ _ _ M w K C q G hB hk

theorem vL:∀ (l:List Edge) {D:Nat->Bool} {p:Prop},vf l D p->(∀ e∈l,Region.binds .any e=true->D e.on=true)->p
 | [],_,_,h,_=>h
 | e::es,D,p,h,hd=>by
  simp only [vf] at h;cases i:Region.binds .any e with
  | false=>rw [i] at h; exact vL es h fun g a=>hd g (bI _ a)
  | true=>rw [i] at h; exact vL es (h (hd e (bF ..) i)) fun g a=>hd g (bI _ a)
theorem zL {D:Nat->Bool} {p:Prop}:∀ n:Nat,wK n D p->(∀ i,i<n->D i=true)->p
 | 0,h,_=>h
 | n+1,h,hd=>zL n (h (hd n (Qh n))) fun i a=>hd i (by omega)
def RG (P:Program) (all:List Oper) (A:(Nat->Bool)->Env->World->Prop):Nat->List Oper->Prop
 | _,[]=>True
 | i,o::os=>(∀ D ρ w,D i=false->vf o.after.toList D (A D ρ w->opE P all o ρ w fun ρ' w'=>A (aF D i) ρ' w'))/\RG P all A (i+1) os
theorem vl {A:(Nat->Bool)->Env->World->Prop} {all:List Oper}:∀ (l:List Oper) (k i:Nat) (o:Oper),RG P all A k l->l[i]?=some o->
  ∀ D ρ w,D (k+i)=false->vf o.after.toList D (A D ρ w->opE P all o ρ w fun a w'=>A (aF D (k+i)) a w')
 | [],_,i,_,_,hi=>by simp at hi
 | x::xs,k,0,o,h,hi=>by
  simp only [HP,bj] at hi;subst hi;exact h.1
 | x::xs,k,i+1,o,h,hi=>by
  rw [mG] at hi;have:=vl xs (k+1) i o h.2 hi;rw [show k+1+i=k+(i+1) by omega] at this;exact this
theorem Ip:∀ (l:List Edge) {i:Nat},QY i l=true->∀ e∈l,Region.binds .any e=true->e.on<i
 | [],_,_,e,a=>by simp at a
 | x::xs,i,h,e,a=>by
  simp only [QY,bQ,na,ry,Nat.blt_eq] at h;rcases dK.1 a with rfl|a
  ·intro j;rcases h.1 with g|g
   ·rw [g] at j; cases j
   ·exact g
  ·exact Ip xs h.2 e a
theorem Im:∀ (l:List Oper) (k:Nat),FN k l=true->∀ i o,l[i]?=some o->∀ e∈o.after.toList,Region.binds .any e=true->e.on<k+i
 | [],_,_,i,o,hi=>by simp at hi
 | x::xs,k,h,i,o,hi=>by
  simp only [FN,bQ] at h;cases i with
  | zero=>
   simp only [HP,bj] at hi;subst hi;exact fun e a=>Ip _ h.1 e a
  | succ i=>
   rw [mG] at hi;intro e a g;have:=Im xs (k+1) h.2 i o hi e a g;omega

theorem Aa {ops:Array Oper} {a:Array Bool} {i:Nat}:i∈Region.ready .any ops a ↔
  i<ops.size/\a.getD i true=false/\∃ o,ops[i]?=some o/\∀ e∈o.after.toList,Region.binds .any e=true->a.getD e.on false=true:=by
 simp only [Region.ready,List.mem_filter,List.mem_range,bQ,ry];constructor
 ·rintro ⟨g,l,h⟩;refine ⟨g,l,ops[i],by simp [g],fun e p j=>?_⟩;simp only [g,getElem?_pos,jz,Ke,Array.all_eq_true] at h;obtain ⟨k,hk,rfl⟩:=VT p;have:=h k (by simpa using hk);simp only [Array.getElem_toList] at j ⊢;rw [j] at this;simpa using this
 ·rintro ⟨g,l,o,m,h⟩;refine ⟨g,l,?_⟩;rw [m];simp only [jz,Ke,Array.all_eq_true];intro k hk;cases j:Region.binds .any (o.after[k]) with
  | false=>simp
  | true=>simpa using h _ (by simp) j

theorem Pm {ops:Array Oper} {a:Array Bool} (o:a.size=ops.size) (p:FN 0 ops.toList=true)
  (h:Region.ready .any ops a=[]):∀ i,i<ops.size->a.getD i false=true:=by
 intro i;induction i using Nat.strongRecOn with
 | _ i r=>
  intro g;by_cases m:a.getD i false=true
  ·exact m
  ·exfalso;have l:i<a.size:=by omega
   have:i∈Region.ready .any ops a:=by
    rw [Aa];refine ⟨g,?_,ops[i],by simp [g],fun e q j=>?_⟩
    ·simpa [Array.getD_eq_getD_getElem?,l] using m
    ·have:=Im _ 0 p i ops[i] (by simp [g]) e q j;exact r e.on (by omega) (by omega)
   rw [h] at this;simp at this

theorem Ty {a:Array Bool} {i:Nat} (g:i<a.size) (j:Nat) :
  (a.setIfInBounds i true).getD j false=aF (fun j=>a.getD j false) i j:=by
 simp only [aF,Array.getD_eq_getD_getElem?];by_cases e:j=i
 ·subst e;simp [g]
 ·rw [WW (by omega)];simp [e]

theorem Pv (hf:EM n ops) (hb:FN 0 ops.toList=true) {A:(Nat->Bool)->Env->World->Prop}
  (hA:RG P ops.toList A 0 ops.toList) 
  (hQ:∀ D ρ a w,Rel n ρ a->(∀ i,i<ops.size->D i=true)->A D ρ w->Q .normal a w) :
  ∀ (m:Nat) (g:Array Bool) (ρ:Env) (a:Act) (w:World),g.size=ops.size->Rel n ρ a->A (fun j=>g.getD j false) ρ w->
   (∀ k,k+m=ops.size->k<=(g.toList.filter id).length)->
   wpAny P .any ops Q m g a w:=by
 intro m;induction m with
 | zero=>
  intro g ρ a w B J h l;have hc:=l ops.size (by omega);have t:∀ i,i<ops.size->g.getD i false=true:=by
   intro i U;have a3:(g.toList.filter id).length<=g.toList.length:=List.length_filter_le _ _;have Z:(g.toList.filter id).length=g.toList.length:=by simp at *; omega
   have:=(List.length_filter_eq_length_iff.1 Z) (g[i]) (by simp)
   simpa [Array.getD_eq_getD_getElem?,show i<g.size by omega] using this
  refine ⟨?_,hQ _ ρ a w J t h⟩;cases a1:Region.ready .any ops g with
  | nil=>rfl
  | cons x xs=>
   have hx:x∈Region.ready .any ops g:=by rw [a1]; simp
   rw [Aa] at hx;have h1:=t x hx.1;have N:=hx.2.1;have a0:x<g.size:=by omega
   simp [Array.getD_eq_getD_getElem?,a0] at h1 N;rw [h1] at N; simp at N
 | succ m ih=>
  intro g ρ a w B J h l;refine ⟨fun M=>hQ _ ρ a w J (Pm B hb M) h,fun i U=>?_⟩;rw [Aa] at U;obtain ⟨a2,V,o,ho,Y⟩:=U;have q:i<g.size:=by omega
  have hD:g.getD i false=false:=by
   simpa [Array.getD_eq_getD_getElem?,q] using V
  have O:ops.toList[i]?=some o:=by simpa using ho
  have p:=vl ops.toList 0 i o hA O (fun j=>g.getD j false) ρ w (by simpa using hD);rw [cS] at p;have r:=vL _ p Y h;have C:=hf o (f0 O);have N:Jh n o.dst=true:=by
   simp only [oc,bQ] at C; exact C.1.1.2
  refine zX ho J C r fun v w' hh=>?_;refine ih _ _ _ _ (by simpa using B) (J.put N v) (by rw [show (fun j=>(g.setIfInBounds i true).getD j false)=aF (fun j=>g.getD j false) i from funext (Ty q)]; exact hh) ?_;intro k hk;have hc:=l (k - 1);have:(g.toList.filter id).length+1<=((g.setIfInBounds i true).toList.filter id).length:=by
   have G:(g.setIfInBounds i true).toList=g.toList.set i true:=by simp
   rw [G];have hg:g.toList[i]?=some false:=by
    have:g[i]?=some false:=by
     simp [Array.getD_eq_getD_getElem?,q] at hD;simp [q,hD]
    simpa using this
   exact aux i _ hg
  by_cases a4:k=0
  ·omega
  ·have:=hc (by omega);omega
where
 aux:∀ (i:Nat) (xs:List Bool),xs[i]?=some false->(xs.filter id).length+1<=((xs.set i true).filter id).length
  | i,[],h=>by simp at h
  | 0,x::xs,h=>by simp at h; subst h; simp
  | i+1,x::xs,h=>by
   simp only [mG] at h;have:=aux i xs h;simp only [OX,List.filter_cons];split <;> simp <;> omega
end ops
end
section
open Go

def Wo (l:List Oper) (t:Nat):Prop:=∃ o∈l,o.dst=some t
def Wc:Code->Nat->Prop
 | .region _ ops _,t=>Wo ops.toList t
 | .seq a b,t|.cond _ a b,t=>Wc a t ∨ Wc b t
 | .block _ a,t|.loop a,t|.scope a,t=>Wc a t
 | _,_=>False

theorem mB {t:Nat}:∀ (ops:List Oper) (l:List Nat),t∈oY ops l↔t∈l ∨ Wo ops t
 | [],l=>by simp [oY,Wo]
 | o::os,l=>by
  simp only [oY];cases a:o.dst with
  | none=>
   rw [mB os l];simp [Wo,a]
  | some d=>
   simp only [];cases i:l.elem d with
   | true=>
    have g:d∈l:=by simpa using i
    simp only [];rw [mB os l];simp only [Wo,dK,exists_eq_or_imp,a,bj];constructor
    ·rintro (h|h)
     ·exact .inl h
     ·exact .inr (.inr h)
    ·rintro (h|h|h)
     ·exact .inl h
     ·subst h; exact .inl g
     ·exact .inr h
   | false=>
    simp only [];rw [mB os (d::l)];simp only [Wo,dK,exists_eq_or_imp,a,bj];constructor
    ·rintro ((h|h)|h)
     ·exact .inr (.inl h.symm)
     ·exact .inl h
     ·exact .inr (.inr h)
    ·rintro (h|h|h)
     ·exact .inl (.inr h)
     ·exact .inl (.inl h.symm)
     ·exact .inr h

theorem nf {t:Nat}:∀ (c:Code) (l:List Nat),t∈wr c l↔t∈l ∨ Wc c t
 | .region _ ops _,l=>mB ops.toList l
 | .seq a b,l=>by simp only [wr,Wc]; rw [nf b,nf a,or_assoc]
 | .cond _ a b,l=>by simp only [wr,Wc]; rw [nf b,nf a,or_assoc]
 | .block _ a,l=>by simp only [wr,Wc]; exact nf a l
 | .loop a,l=>by simp only [wr,Wc]; exact nf a l
 | .scope a,l=>by simp only [wr,Wc]; exact nf a l
 | .skip,l|.ret,l|.exit _,l|.label _,l|.goto _,l|.refuse _,l|.rangeFunc ..,l=>by simp [wr,Wc]

def Agr (W:Nat->Prop) (ρ ρ':Env):Prop:=∀ t,¬ W t->ρ' t=ρ t
theorem Agr.refl (W:Nat->Prop) (ρ:Env):Agr W ρ ρ:=fun _ _=>rfl
theorem Agr.trans {W:Nat->Prop} {ρ g a:Env} (h:Agr W ρ g) (j:Agr W g a):Agr W ρ a:=fun t i=>(j t i).trans (h t i)
theorem Agr.mono {W W':Nat->Prop} {ρ a:Env} (h:Agr W ρ a) (g:∀ t,W t->W' t):Agr W' ρ a:=fun t i=>h t fun j=>i (g t j)
theorem Agr.put {W:Nat->Prop} (ρ:Env) (a:Option Nat) (v:Value) (h:∀ d,a=some d->W d):Agr W ρ (uj ρ a v):=by
 cases a with
 | none=>exact Agr.refl _ _
 | some d=>exact fun t g=>sS ρ v fun e=>g (e ▸ h d rfl)

theorem gl:∀ (l:List Nat) (ρ:Env) (p:Env->Prop),mu l ρ p->∀ a,(∀ t,t ∉ l->a t=ρ t)->p a
 | [],ρ,p,h,a,e=>by have:a=ρ:=funext fun t=>e t (by simp); rw [this]; exact h
 | m::l,ρ,p,h,a,e=>by
  refine gl l (upd ρ m (a m)) p (h (a m)) a fun t i=>?_;by_cases g:t=m
  ·subst g; rw [D9]
  ·rw [sS _ _ g]; exact e t (by simp [g,i])
theorem lh:∀ (l:List Nat) (ρ:Env) (p:Env->Prop),(∀ a,(∀ t,t ∉ l->a t=ρ t)->p a)->mu l ρ p
 | [],ρ,p,h=>h ρ fun _ _=>rfl
 | m::l,ρ,p,h=>fun x=>lh l _ p fun a e=>h a fun t j=>by
   have i:t≠m:=fun g=>j (by rw [g]; exact bF ..);rw [e t (fun g=>j (bI _ g)),sS _ _ i]

theorem GuardO.mono {ops:List Oper} {ρ:Env} {g:Option (Nat × Bool)} {A B A' B':Prop} (h:GuardO ops ρ g A B) (l:A->A') (a:B->B') :
  GuardO ops ρ g A' B':=by
 unfold GuardO aI at *;split
 ·exact l h
 ·rename_i j b
  simp only [] at h;split
  ·rename_i d i
   rw [i] at h;simp only [] at h;split
   ·rename_i c hc
    rw [hc] at h;simp only [] at h;split
    ·rename_i e; rw [ag e] at h; exact l h
    ·rename_i e; rw [ae e] at h; exact a h
   ·rename_i m
    split at h
    ·rename_i c hc; exact absurd hc (m c)
    ·exact a h
  ·rename_i i
   rw [i] at h;exact a h

section mono
variable {P:Program}
theorem Jb:∀ (l:List Oper) (ρ:Env) (w:World) (K K':Env->World->Prop),R4 P l ρ w K->
  (∀ a w',Agr (Wo l) ρ a->K a w'->K' a w')->R4 P l ρ w K'
 | [],ρ,w,K,K',h,hk=>hk _ _ (Agr.refl _ _) h
 | o::os,ρ,w,K,K',h,hk=>by
  refine stepE.mono h fun v w' i=>Jb os _ w' K K' i fun a g j=>hk a g ?_;exact (Agr.put ρ o.dst v fun d m=>⟨o,bF ..,m⟩).trans
   (j.mono fun t ⟨o',p,q⟩=>⟨o',bI _ p,q⟩)
theorem IM:∀ (l:List Oper) (ρ:Env),Agr (Wo l) ρ (Nk l ρ)
 | [],_=>Agr.refl _ _
 | o::os,ρ=>(Agr.put ρ o.dst undef fun _ a=>⟨o,bF ..,a⟩).trans
   ((IM os _).mono fun _ ⟨o',g,h⟩=>⟨o',bI _ g,h⟩)

theorem Pk {all:List Oper}:∀ (m:Nat) (l:List Oper) (ρ:Env) (w:World) (K K':Env->World->Prop),Cg P all m l ρ w K->
  (∀ p w',Agr (Wo l) ρ p->K p w'->K' p w')->Cg P all m l ρ w K':=by
 intro m;induction m with
 | zero=>intro l ρ w K K' h; exact h.elim
 | succ m C=>
  intro l ρ w K K' h hk;cases l with
  | nil=>exact hk _ _ (Agr.refl _ _) h
  | cons o os=>
   simp only [Cg] at h C ⊢;cases O:o.guard with
   | none=>
    rw [O] at h;simp only [] at h ⊢;refine stepE.mono h fun v w' q=>C os _ w' K K' q fun p a D=>hk p a ?_;exact (Agr.put ρ o.dst v fun d U=>⟨o,bF ..,U⟩).trans
     (D.mono fun t ⟨o',r,B⟩=>⟨o',bI _ r,B⟩)
   | some g=>
    rw [O] at h;simp only [] at h ⊢;have J:=AA (some g) os;have M:∀ t,Wo (o::grp (some g) os) t->Wo (o::os) t:=fun t ⟨o',r,B⟩=>⟨o',by
     rw [J,<- dg]; exact gf _ r,B⟩
    have N:∀ t,Wo (nN (some g) os) t->Wo (o::os) t:=fun t ⟨o',r,B⟩=>⟨o',by
     rw [J,<- dg]; exact gy _ r,B⟩
    refine GuardO.mono h (fun q=>?_) (fun q=>?_)
    ·refine Jb _ _ _ _ _ q fun p w' D G=>C _ _ _ K K' G fun i a j=>hk i a ?_;exact (D.mono M).trans (j.mono N)
    ·refine C _ _ _ K K' q fun i a j=>hk i a ?_;exact ((IM _ _).mono M).trans (j.mono N)

theorem vK:∀ (l:List Edge) {D:Nat->Bool} {p q:Prop},vf l D p->(p->q)->vf l D q
 | [],_,_,_,h,hq=>hq h
 | e::es,D,p,q,h,hq=>by
  simp only [vf] at h ⊢;cases a:Region.binds .any e with
  | false=>rw [a] at h; exact vK es h hq
  | true=>rw [a] at h; exact fun g=>vK es (h g) hq
theorem yf {D:Nat->Bool} {p q:Prop}:∀ n:Nat,wK n D p->(p->q)->wK n D q
 | 0,h,hq=>hq h
 | n+1,h,hq=>fun a=>yf n (h a) hq
theorem Ve {all:List Oper} {o:Oper} {ρ:Env} {w:World} {K K':Env->World->Prop} (h:opE P all o ρ w K)
  (hk:∀ v w',K (uj ρ o.dst v) w'->K' (uj ρ o.dst v) w'):opE P all o ρ w K':=
 GuardO.mono h (fun a=>stepE.mono a fun v w'=>hk v w') (hk _ _)
theorem Jl:∀ (l:List Nat) (ρ:Env) {p q:Env->Prop},mu l ρ p->(∀ a,(∀ t,t ∉ l->a t=ρ t)->p a->q a)->mu l ρ q:=
 fun l ρ p _ h g=>lh l ρ _ fun a e=>g a e (gl l ρ p h a e)
theorem NE {ops:List Oper} {ρ:Env} {w:World} {K K':Env->World->Prop} (h:Qi P ops ρ w K)
  (hk:∀ a w',Agr (Wo ops) ρ a->K a w'->K' a w'):Qi P ops ρ w K':=by
 obtain ⟨A,p,q,r⟩:=h;refine ⟨A,p,q,fun D=>?_⟩;refine yf _ (r D) fun i=>Jl _ _ i fun a g j w' l=>hk a w' (fun t m=>g t fun o=>m ?_) (j w' l);exact ((mB ops []).1 o).resolve_left (by simp)
theorem vw {all:List Oper} {M:List Nat} {A:(Nat->Bool)->Cur (World->Prop) M} {ρ:Env} (p:∀ t,Wo all t->t∈M):∀ (l:List Oper) (i:Nat),(∀ t,Wo l t->Wo all t)->
  AV P all M A ρ i l->RG P all (fun D a w'=>ap M (A D) a w'/\Agr (Wo all) ρ a) i l
 | [],_,_,_=>trivial
 | o::os,i,hw,h=>by
  refine ⟨fun D a w' q=>?_,vw p os (i+1) (fun t ⟨o',g,r⟩=>hw t ⟨o',bI _ g,r⟩) h.2⟩;refine vK _ (h.1 D q) fun B j=>?_;have g:=gl _ _ _ B a (fun t C=>j.2 t fun m=>C (p t m)) w' j.1;exact Ve g fun v G J=>⟨J,j.2.trans (Agr.put a o.dst v fun d N=>hw d ⟨o,bF ..,N⟩)⟩

theorem CondV.mono {v:Value} {A B A' B':Prop} (h:CondV v A B) (a:A->A') (g:B->B'):CondV v A' B':=by
 unfold CondV at *;split
 ·rename_i c
  simp only [] at h;split
  ·rename_i e; rw [ag e] at h; exact a h
  ·rename_i e; rw [ae e] at h; exact g h
 ·rename_i i
  split at h
  ·rename_i c; exact absurd rfl (i c)
  ·exact h

theorem lF {K K':Env->World->Prop} {Q Q':Exit->Env->World->Prop} {ρ:Env} {w:World} (hk:K ρ w->K' ρ w)
  (a:∀ e,Q e ρ w->Q' e ρ w):∀ e,B5 K Q e ρ w->B5 K' Q' e ρ w:=by
 intro e;cases e <;> first|exact hk|exact a _

theorem la:∀ (c:Code) (l:An) (Q Q':Exit->Env->World->Prop) (ρ:Env) (w:World),vc P c l Q ρ w->
  (∀ e g w',Agr (Wc c) ρ g->Q e g w'->Q' e g w')->vc P c l Q' ρ w
 | .skip,l,Q,Q',ρ,w,h,hq=>hq _ _ _ (Agr.refl _ _) h
 | .ret,l,Q,Q',ρ,w,h,hq=>hq _ _ _ (Agr.refl _ _) h
 | .exit id,l,Q,Q',ρ,w,h,hq=>hq _ _ _ (Agr.refl _ _) h
 | .region id ops draw,l,Q,Q',ρ,w,h,hq=>by
  simp only [vc] at h ⊢;cases draw with
  | true=>exact NE h fun g w' i=>hq _ g w' i
  | false=>exact Pk _ _ _ _ _ _ (by simpa only [cond_false] using h) fun g w' i=>hq _ g w' i
 | .seq a b,l,Q,Q',ρ,w,h,hq=>by
  simp only [vc] at h ⊢;cases hc:l.cut with
  | none=>
   rw [hc] at h;simp only [] at h ⊢;refine la a _ _ _ ρ w h fun e g w' i=>?_;refine lF (fun j=>?_) (fun r j=>hq r g w' (i.mono fun t=>.inl) j) e;exact la b _ _ _ g w' j fun r m o p=>hq r m o ((i.mono fun t=>.inl).trans (p.mono fun t=>.inr))
  | some V=>
   rw [hc] at h;simp only [] at h ⊢;obtain ⟨J,D,G⟩:=h;refine ⟨J,?_,?_⟩
   ·refine la a _ _ _ ρ w D fun e g w' i=>?_;exact lF id (fun r j=>hq r g w' (i.mono fun t=>.inl) j) e
   ·refine lh _ _ _ fun g q w' N=>?_;have i:Agr (Wc a) ρ g:=fun t B=>q t fun C=>B (((nf a []).1 C).resolve_left (by simp));exact la b _ _ _ g w' (gl _ _ _ G g q w' N) fun r m o p=>
     hq r m o ((i.mono fun t=>.inl).trans (p.mono fun t=>.inr))
 | .cond x a b,l,Q,Q',ρ,w,h,hq=>by
  simp only [vc] at h ⊢;exact CondV.mono h (fun j=>la a _ _ _ ρ w j fun e g w' i=>hq e g w' (i.mono fun t=>.inl))
   (fun j=>la b _ _ _ ρ w j fun e g w' i=>hq e g w' (i.mono fun t=>.inr))
 | .block id a,l,Q,Q',ρ,w,h,hq=>by
  simp only [vc] at h ⊢;refine la a _ _ _ ρ w h fun e g w' i j=>?_;cases e with
  | exit M=>
   simp only [Qk] at j ⊢;cases U:Nat.beq M id <;> rw [U] at j <;> exact hq _ g w' i j
  | _=>exact hq _ g w' i j
 | .loop a,l,Q,Q',ρ,w,h,hq=>by
  simp only [vc] at h ⊢;obtain ⟨I,μ,D,G⟩:=h;refine ⟨I,μ,D,lh _ _ _ fun g q w' O=>?_⟩;have i:Agr (Wc a) ρ g:=fun t B=>q t fun C=>B (((nf a []).1 C).resolve_left (by simp));refine la a _ _ _ g w' (gl _ _ _ G g q w' O) fun e m o p=>?_;exact lF id (fun r j=>hq r m o (i.trans p) j) e
 | .scope ..,_,_,_,_,_,h,_|.label ..,_,_,_,_,_,h,_|.goto ..,_,_,_,_,_,h,_|.refuse ..,_,_,_,_,_,h,_
 | .rangeFunc ..,_,_,_,_,_,h,_=>h.elim
end mono

def HL (a:Act):Env:=fun t=>a.tmps.getD t undef
theorem Rel.env {n:Nat} {ρ:Env} {a:Act} (h:Rel n ρ a):ρ=HL a:=by
 funext t
 by_cases g:t<n
 ·simp [HL,Array.getD_eq_getD_getElem?,h.at_ t g]
 ·rw [h.out t (by omega)];simp [HL,Array.getD_eq_getD_getElem?,h.size,show ¬ t<n from g]

section sound
variable {P:Program} {n:Nat}
def post (n:Nat) (Q:Exit->Env->World->Prop):Exit->Act->World->Prop:=fun e a w=>∃ ρ,Rel n ρ a/\Q e ρ w

theorem AF {K:Env->World->Prop} {Q:Exit->Env->World->Prop} {next:Act->World->Prop} {Q':Exit->Act->World->Prop} {a:Act} {w:World}
  (hk:∀ ρ,Rel n ρ a->K ρ w->next a w) (i:∀ e ρ,Rel n ρ a->Q e ρ w->Q' e a w):∀ e,post n (B5 K Q) e a w->Exit.then next Q' e a w:=by
 rintro e ⟨ρ,g,h⟩;cases e <;> first|exact hk ρ g h|exact i _ ρ g h

theorem km (C:P.follows .mixedOrders=true):∀ (c:Code) (q:An) (Q:Exit->Env->World->Prop) (ρ:Env) (w:World) (a:Act),Rel n ρ a->
  z6 n c=true->vc P c q Q ρ w->c.wp P (post n Q) a w
 | .skip,q,Q,ρ,w,a,hr,_,h=>wp_skip ⟨ρ,hr,h⟩
 | .ret,q,Q,ρ,w,a,hr,_,h=>wp_ret ⟨ρ,hr,h⟩
 | .exit id,q,Q,ρ,w,a,hr,_,h=>wp_exit ⟨ρ,hr,h⟩
 | .region id ops draw,q,Q,ρ,w,a,hr,hf,h=>by
  simp only [z6,bQ,na,ry] at hf;obtain ⟨⟨a0,a1⟩,a2⟩:=hf;have Z:EM n ops:=fun o ho=>fF.1 a0 o ho;simp only [vc] at h;cases draw with
  | true=>
   obtain ⟨A,V,Y,h3⟩:=h;have hb:FN 0 ops.toList=true:=by simpa using a2
   refine wp_region_any C ?_;have hW:∀ t,Wo ops.toList t->t∈oY ops.toList []:=fun t G=>(mB _ _).2 (.inr G);refine Pv Z hb (vw hW _ 0 (fun _ h=>h) Y) ?_ _ _ ρ a _ (by simp) hr ?_ ?_
   ·intro D l B w' g hD hA;have h4:=zL _ (h3 D) (fun i hi=>hD i (by simpa using hi));exact ⟨l,g,gl _ _ _ h4 l (fun t G=>hA.2 t fun U=>G (hW t U)) w' hA.1⟩
   ·have:(fun j=>(Array.replicate ops.size false).getD j false)=fun _=>false:=by
     funext j
     simp only [Array.getD_eq_getD_getElem?,Array.getElem?_replicate];split <;> rfl
    rw [this]; exact ⟨V,Agr.refl _ _⟩
   ·intro k hk; omega
  | false=>
   refine wp_region ?_;have:=Mf (Q:=post n Q) Z a1 _ ops.toList 0 ρ a w _ (Qh _) rfl hr h fun l B w' g m=>⟨l,g,m⟩
   simpa [List.range_eq_range'] using this
 | .seq x y,q,Q,ρ,w,a,hr,hf,h=>by
  simp only [z6,bQ] at hf;simp only [vc] at h;cases hc:q.cut with
  | none=>
   rw [hc] at h;simp only [] at h;refine wp_seq (wp_mono (km C x _ _ ρ w a hr hf.1 h) fun e B w'=>?_);exact AF (fun l g m=>km C y _ _ l w' B g hf.2 m) (fun e' l g m=>⟨l,g,m⟩) e
  | some lv=>
   rw [hc] at h;simp only [] at h;obtain ⟨J,V,Y⟩:=h;have a3:=la x _ _ (B5 (fun l w'=>ap lv J l w'/\Agr (Wc x) ρ l) Q) ρ w V fun e l w' ha=>
    lF (fun m=>⟨m,ha⟩) (fun _=>id) e
   refine wp_seq (wp_mono (km C x _ _ ρ w a hr hf.1 a3) fun e B w'=>?_);refine AF (fun l g m=>?_) (fun e' l g m=>⟨l,g,m⟩) e;refine km C y _ _ l w' B g hf.2 (gl _ _ _ Y l (fun t G=>m.2 t fun U=>G ?_) w' m.1);exact (nf x []).2 (.inr U)
 | .cond x c d,q,Q,ρ,w,a,hr,hf,h=>by
  simp only [z6,bQ] at hf;simp only [vc] at h;have he:=hr.eval hf.1.1;unfold CondV at h;split at h
  ·rename_i t G
   rw [G] at he;refine wp_cond he ?_;split at h
   ·rename_i e; rw [ag e]; exact km C c _ _ ρ w a hr hf.1.2 h
   ·rename_i e; rw [ae e]; exact km C d _ _ ρ w a hr hf.2 h
  ·exact h.elim
 | .block id c,q,Q,ρ,w,a,hr,hf,h=>by
  simp only [z6] at hf;simp only [vc] at h;refine wp_block (wp_mono (km C c _ _ ρ w a hr hf h) fun e B w'=>?_);rintro ⟨l,g,m⟩;cases e with
  | exit N=>
   simp only [Qk] at m;simp only [Exit.inBlock];by_cases e:N=id
   ·have:Nat.beq N id=true:=by simpa using e
    rw [this] at m;rw [ag e]; exact ⟨l,g,m⟩
   ·have:Nat.beq N id=false:=by simpa [<- Bool.not_eq_true] using e
    rw [this] at m;rw [ae e]; exact ⟨l,g,m⟩
  | _=>exact ⟨l,g,m⟩
 | .loop c,q,Q,ρ,w,a,hr,hf,h=>by
  simp only [z6] at hf;simp only [vc] at h;obtain ⟨I,μ,V,Y⟩:=h;refine wp_loop (fun B w'=>∃ l,Rel n l B/\Agr (Wc c) ρ l/\ap q.live I l w') (fun B w'=>ap q.live μ (HL B) w')
   ⟨ρ,hr,Agr.refl _ _,V⟩ ?_
  rintro B w' ⟨l,g,O,hI⟩;have a4:=gl _ _ _ Y l (fun t G=>O t fun U=>G ((nf c []).2 (.inr U))) w' hI;have h3:=la c _ _ (B5 (fun p M=>(ap q.live I p M/\ap q.live μ p M<ap q.live μ l w')/\Agr (Wc c) l p) Q) l w' a4
   fun e p M ha=>lF (fun m=>⟨m,ha⟩) (fun _=>id) e
  refine wp_mono (km C c _ _ l w' B g hf h3) fun e a5 M=>?_;refine AF (fun p r m=>⟨⟨p,r,O.trans m.2,m.1.1⟩,?_⟩) (fun e' p r m=>⟨p,r,m⟩) e;rw [<- r.env,<- g.env];exact m.1.2
 | .scope ..,_,_,_,_,_,_,_,h|.label ..,_,_,_,_,_,_,_,h|.goto ..,_,_,_,_,_,_,_,h|.refuse ..,_,_,_,_,_,_,_,h
 | .rangeFunc ..,_,_,_,_,_,_,_,h=>h.elim
end sound

def bg (P:Program) (T:TypeId) (p:Value) (w:World) (K:Value->Prop):Prop:=
 ∃ v,(do loadVar T (<- asAddr p):Sem Value).run P w=.ok v w/\K v
def WX (P:Program):List ResultVar->Env->World->(List Value->Prop)->Prop
 | [],_,_,K=>K []
 | .tmp t::rs,ρ,w,K=>WX P rs ρ w fun vs=>K (ρ t::vs)
 | .cell t T::rs,ρ,w,K=>bg P T (ρ t) w fun v=>WX P rs ρ w fun vs=>K (v::vs)
def Wi:List Value->Value
 | [v]=>v
 | vs=>.tuple vs.toArray
def Y0 (P:Program) (rs:List ResultVar) (ρ:Env) (w:World) (R:Ending->World->Prop):Prop:=
 WX P rs ρ w fun vs=>R (.returned (Wi vs)) w
def Mu (P:Program) (rs:List ResultVar) (R:Ending->World->Prop):Exit->Env->World->Prop
 | .normal,ρ,w|.ret,ρ,w=>Y0 P rs ρ w R
 | _,_,_=>False

def V3 (tmps:Array Value):ResultVar->Sem Value
 | .tmp t=>pure (tmps.getD t undef)
 | .cell t T=>do loadVar T (<- asAddr (tmps.getD t undef))
theorem O1 (fn:Func) (tmps:Array Value):results fn tmps=(do
  let vs <- fn.results.mapM (V3 tmps)
  pure (if h:vs.size=1 then vs[0] else .tuple vs)):=by
 unfold results
 congr 2
theorem E9 {P:Program} {a:Act} {w:World}:∀ (g:List ResultVar) (K:List Value->Prop),WX P g (HL a) w K->
  ∃ vs,(g.mapM (V3 a.tmps)).run P w=.ok vs w/\vs.length=g.length/\K vs
 | [],K,h=>⟨[],by simp,rfl,h⟩
 | .tmp t::g,K,h=>by
  obtain ⟨vs,i,j,l⟩:=E9 g _ h;refine ⟨_::vs,?_,by simp [j],l⟩;rw [List.mapM_cons];simp only [Sem.run_bind,V3,Sem.run_pure,Result.andThen_ok,i];rfl
 | .cell t T::g,K,h=>by
  obtain ⟨v,o,h⟩:=h;obtain ⟨vs,i,j,l⟩:=E9 g _ h;refine ⟨v::vs,?_,by simp [j],l⟩;rw [List.mapM_cons];have m:(V3 a.tmps (.cell t T)).run P w=.ok v w:=o;simp only [Sem.run_bind,m,Result.andThen_ok,i,Sem.run_pure]

theorem Be {P:Program} {fn:Func} {a:Act} {w:World} {R:Ending->World->Prop}
  (h:Y0 P fn.results.toList (HL a) w R):∃ v,(results fn a.tmps).run P w=.ok v w/\R (.returned v) w:=by
 obtain ⟨vs,g,j,i⟩:=E9 fn.results.toList _ h;refine ⟨_,?_,i⟩;rw [O1,Array.mapM_eq_mapM_toList];simp only [Sem.run_bind,Sem.run_map,g,Result.andThen_ok,Sem.run_pure]
 congr 1
 match vs with
 | []=>simp [Wi]
 | [v]=>simp [Wi]
 | v::u::r=>simp [Wi]

def pR:Nat->List Value->Env->Env
 | _,[],ρ=>ρ
 | k,v::vs,ρ=>pR (k+1) vs (upd ρ k v)
theorem Ep:∀ (l:List Value) (k:Nat) (ρ:Env) (t:Nat),pR k l ρ t=if k<=t/\t<k+l.length then (l[t - k]?).getD undef else ρ t
 | [],k,ρ,t=>by simp [pR]; intro a g; omega
 | v::vs,k,ρ,t=>by
  rw [pR,Ep vs (k+1) _ t];by_cases h:t=k
  ·subst h;rw [ae (by omega),ag (by simp),D9];simp
  ·rw [sS _ _ h];by_cases a:k+1<=t/\t<k+1+vs.length
   ·rw [ag a,ag (by simp; omega)];rw [show t - k=(t - (k+1))+1 by omega,mG]
   ·rw [ae a,ae (by simp; omega)]

theorem L5 {P:Program} {f:FuncId} {fn:Func} {c:Code} {n:Nat} (m:An) {args:List Value} {w:World} {R:Ending->World->Prop}
  (o:P.follows .mixedOrders=true) (hf:P.funcs[f]?=some fn) (p:fn.body=some c) (hn:fn.ntmps=n) (q:Nat.ble args.length n=true)
  (g:z6 n c=true) (h:vc P c m (Mu P fn.results.toList R) (pR 0 args fun _=>undef) w):Calls P f args.toArray w R:=by
 have B:args.length<=n:=D1 q;refine calls_of_wp hf p ?_;have C:Rel n (pR 0 args fun _=>undef) { tmps:=args.toArray++Array.replicate (fn.ntmps - args.toArray.size) undef,defers:=[] }:=by
  refine ⟨by simp; omega,fun t r=>?_,fun t r=>?_,rfl⟩
  ·rw [Ep];by_cases i:t<args.length
   ·rw [ag (by omega)];simp [Array.getElem?_append,i]
   ·rw [ae (by omega)];rw [Array.getElem?_append_right (by simp; omega),Array.getElem?_replicate,ag (by simp; omega)]
  ·rw [Ep,ae (by omega)]
 refine wp_mono (km o c m _ _ w _ C g h) fun e G w'=>?_;rintro ⟨D,a,j⟩;rw [a.env] at j;cases e with
 | normal=>
  obtain ⟨v,i,l⟩:=Be j;exact ⟨a.defers,v,i,l⟩
 | ret=>
  obtain ⟨v,i,l⟩:=Be j;exact ⟨a.defers,v,i,l⟩
 | _=>exact j.elim

def oE (fn:Func):Code:=fn.body.getD .skip
def ready (fn:Func) (k:Nat):Bool:=fn.body.isSome && Nat.ble k fn.ntmps && z6 fn.ntmps (oE fn)
theorem pe {P:Program} {f:FuncId} {fn:Func} (a:An) (args:List Value) {w:World} {R:Ending->World->Prop} {p:Prop}
  (j:P.follows .mixedOrders=true) (hf:P.funcs[f]?=some fn) (g:ready fn args.length=true)
  (h:p=vc P (oE fn) a (Mu P fn.results.toList R) (pR 0 args fun _=>undef) w) (l:p):Calls P f args.toArray w R:=by
 simp only [ready,bQ] at g;obtain ⟨⟨i,m⟩,o⟩:=g;refine L5 a j hf (c:=oE fn) ?_ rfl m o (h ▸ l);unfold oE;cases q:fn.body with
 | none=>rw [q] at i; cases i
 | some c=>rfl
end
section
open Go Go.RowKit

abbrev ai:=Nat->Option Obj
def Sle (S S':ai):Prop:=∀ b o,S b=some o->S' b=some o
theorem Sle.refl (S:ai):Sle S S:=fun _ _ h=>h
theorem Sle.trans {S S' S'':ai} (h:Sle S S') (a:Sle S' S''):Sle S S'':=fun b o g=>a b o (h b o g)

inductive Item where
 | blk (b:Nat) (o:Obj)
 | row (v:Value) (e:TypeId) (size n:Nat) (xs:List Value)
def Item.foot:Item->List Nat
 | .blk b _=>[b]
 | .row v ..=>v.ownBlock.toList
def Item.holds (w:World):Item->Prop
 | .blk b o=>w.heap[b]?=some o
 | .row v e size n xs=>w.ownsRow 0 e size v n xs
def cg (L:List Item):List Nat:=L.flatMap Item.foot

theorem Item.lt {w:World}:∀ {it:Item},it.holds w->∀ b∈it.foot,b<w.heap.size
 | .blk b o,h,c,hc=>by
  simp only [Item.foot,bM] at hc;subst hc;exact (W2.1 h).1
 | .row v e size n xs,h,c,hc=>by
  simp only [Item.foot,Option.mem_toList] at hc;exact (World.ownsRow.lt h c hc).2
theorem Item.kept {w w':World}:∀ {it:Item},it.holds w->w.heap.size<=w'.heap.size->w'.os=w.os->w'.tape=w.tape->w'.output=w.output->
  (∀ b∈it.foot,w'.heap[b]?=w.heap[b]?)->it.holds w'
 | .blk b o,h,_,_,_,_,hk=>(hk b (by simp [Item.foot])).trans h
 | .row v e size n xs,h,_,_,_,_,hk=>by
  refine ⟨h.1,?_⟩;rcases h.2 with hn|⟨g,cap,i,rfl,l,j,a⟩
  ·exact .inl hn
  ·exact .inr ⟨g,cap,i,rfl,l,(hk g (by simp [Item.foot,Value.ownBlock])).trans j,a⟩

structure Inv (w0:World) (X:List Nat) (L:List Item) (S:ai) (w:World):Prop where
 size:w0.heap.size<=w.heap.size
 os:w.os=w0.os
 tape:w.tape=w0.tape
 output:w.output=w0.output
 old:∀ b,b<w0.heap.size->b ∉ X->w.heap[b]?=w0.heap[b]?
 its:∀ it∈L,it.holds w
 nd:(cg L).Nodup
 new:∀ b∈cg L,b∈X ∨ w0.heap.size<=b
 pub:∀ b o,S b=some o->w.heap[b]?=some o/\b ∉ cg L

theorem py {L:List Item} {b:Nat}:b∈cg L↔∃ it∈L,b∈it.foot:=by simp [cg,List.mem_flatMap]
theorem dh (L M:List Item):cg (L++M)=cg L++cg M:=by simp [cg]
theorem Inv.lt {w0 w:World} {X:List Nat} {L:List Item} {S:ai} (h:Inv w0 X L S w) {b:Nat} (a:b∈cg L):b<w.heap.size:=by
 obtain ⟨it,g,a⟩:=py.1 a;exact Item.lt (h.its it g) b a
theorem Inv.publt {w0 w:World} {X:List Nat} {L:List Item} {S:ai} (h:Inv w0 X L S w) {b:Nat} {o:Obj} (a:S b=some o):b<w.heap.size:=
 (W2.1 (h.pub b o a).1).1

theorem Inv.start {w:World} {L:List Item} {S:ai} (a:∀ it∈L,it.holds w) (hn:(cg L).Nodup) (g:∀ b o,S b=some o->w.heap[b]?=some o/\b ∉ cg L) :
  Inv w (cg L) L S w:=
 ⟨aY _,rfl,rfl,rfl,fun _ _ _=>rfl,a,hn,fun _ h=>.inl h,g⟩
theorem Inv.begin {w0 w:World} {X:List Nat} {L:List Item} {S:ai} (h:Inv w0 X L S w):Inv w (cg L) L S w:=Inv.start h.its h.nd h.pub

theorem UL {L M:List Item} (h:List.Sublist M L):List.Sublist (cg M) (cg L):=by
 induction h with
 | slnil=>exact List.Sublist.refl _
 | cons a _ g=>simp only [cg,Mi] at *; exact g.trans (fj _ _)
 | cons_cons a _ g=>simp only [cg,Mi] at *; exact List.Sublist.append_left g _
theorem R0 {L M:List Item} (a:List.Sublist M L) (h:(cg L).Nodup):(cg M).Nodup:=List.Nodup.sublist (UL a) h
theorem Inv.sub {w0 w:World} {X:List Nat} {L M:List Item} {S:ai} (h:Inv w0 X L S w) (g:List.Sublist M L):Inv w0 X M S w:=
 have j:∀ b,b∈cg M->b∈cg L:=fun b a=>by
  obtain ⟨it,m,p⟩:=py.1 a;exact py.2 ⟨it,g.subset m,p⟩
 ⟨h.size,h.os,h.tape,h.output,h.old,fun it l=>h.its it (g.subset l),R0 g h.nd,fun b a=>h.new b (j b a),
  fun b o a=>⟨(h.pub b o a).1,fun i=>(h.pub b o a).2 (j b i)⟩⟩
theorem Inv.nil {w0 w:World} {X:List Nat} {L:List Item} {S:ai} (h:Inv w0 X L S w):Inv w0 X [] S w:=h.sub (List.nil_sublist _)
def zK:List Bool->List Item->List Item
 | true::bs,x::xs=>x::zK bs xs
 | false::bs,_::xs=>zK bs xs
 | _,_=>[]
theorem zU:∀ (bs:List Bool) (L:List Item),List.Sublist (zK bs L) L
 | true::bs,x::xs=>by simp only [zK]; exact (zU bs xs).cons_cons x
 | false::bs,x::xs=>by simp only [zK]; exact (zU bs xs).cons x
 | [],L=>by simp [zK]
 | true::_,[]=>by simp [zK]
 | false::_,[]=>by simp [zK]
theorem Inv.pick {w0 w:World} {X:List Nat} {L:List Item} {S:ai} (h:Inv w0 X L S w) (bs:List Bool):Inv w0 X (zK bs L) S w:=h.sub (zU bs L)
theorem Inv.less {w0 w:World} {X:List Nat} {L:List Item} {S S':ai} (h:Inv w0 X L S w) (a:Sle S' S):Inv w0 X L S' w:=
 { h with pub:=fun b o g=>h.pub b o (a b o g) }
theorem Inv.perm {w0 w:World} {X:List Nat} {L M:List Item} {S:ai} (h:Inv w0 X L S w) (i:List.Perm M L):Inv w0 X M S w:=by
 have hf:List.Perm (cg M) (cg L):=i.flatMap_right _;exact ⟨h.size,h.os,h.tape,h.output,h.old,fun it j=>h.its it (i.mem_iff.1 j),hf.symm.nodup h.nd,fun b a=>h.new b (hf.mem_iff.1 a),
  fun b o a=>⟨(h.pub b o a).1,fun g=>(h.pub b o a).2 (hf.mem_iff.1 g)⟩⟩

theorem Inv.step {w0 w w':World} {X:List Nat} {A B:List Item} {S S':ai} (h:Inv w0 X (A++B) S w) {B':List Item} (hc:Inv w (cg B) B' S' w')
  (G:∀ b o,S' b=some o->S b=some o ∨ b∈cg B ∨ w.heap.size<=b):Inv w0 X (A++B') S' w':=by
 have t:=h.nd;rw [dh,mK] at t;obtain ⟨J,N,m⟩:=t;have p:∀ b∈cg A,w'.heap[b]?=w.heap[b]?:=fun b g=>
  hc.old b (h.lt (by rw [dh]; exact gf _ g)) fun l=>m b g b l rfl
 refine ⟨il h.size hc.size,hc.os.trans h.os,hc.tape.trans h.tape,hc.output.trans h.output,fun b g r=>?_,fun it q=>?_,?_,fun b g=>?_,fun b o g=>?_⟩
 ·have C:b ∉ cg B:=fun l=>by
   rcases h.new b (by rw [dh]; exact gy _ l) with i|i
   ·exact r i
   ·omega
  rw [hc.old b (Nat.lt_of_lt_of_le g h.size) C];exact h.old b g r
 ·rcases cU.1 q with q|q
  ·exact Item.kept (h.its it (gf _ q)) hc.size hc.os hc.tape hc.output fun b g=>p b (py.2 ⟨it,q,g⟩)
  ·exact hc.its it q
 ·rw [dh,mK];refine ⟨J,hc.nd,fun a D b g e=>?_⟩;subst e;have M:=h.lt (b:=a) (by rw [dh]; exact gf _ D);rcases hc.new a g with i|i
  ·exact m a D a i rfl
  ·omega
 ·rw [dh] at g;rcases cU.1 g with g|g
  ·exact h.new b (by rw [dh]; exact gf _ g)
  ·rcases hc.new b g with i|i
   ·exact h.new b (by rw [dh]; exact gy _ i)
   ·exact .inr (il h.size i)
 ·refine ⟨(hc.pub b o g).1,fun j=>?_⟩;rw [dh] at j;rcases cU.1 j with j|j
  ·rcases G b o g with i|i|i
   ·exact (h.pub b o i).2 (by rw [dh]; exact gf _ j)
   ·exact m b j b i rfl
   ·have:=h.lt (b:=b) (by rw [dh]; exact gf _ j);omega
  ·exact (hc.pub b o g).2 j

structure Grow (w w':World):Prop where
 size:w.heap.size<=w'.heap.size
 os:w'.os=w.os
 tape:w'.tape=w.tape
 output:w'.output=w.output
 old:∀ b,b<w.heap.size->w'.heap[b]?=w.heap[b]?
theorem Grow.refl (w:World):Grow w w:=⟨aY _,rfl,rfl,rfl,fun _ _=>rfl⟩
theorem Inv.grow {w0 w w':World} {X:List Nat} {L:List Item} {S:ai} (h:Inv w0 X L S w) (a:Grow w w'):Inv w0 X L S w':=by
 have:Inv w (cg []) [] S w':=⟨a.size,a.os,a.tape,a.output,fun b g _=>a.old b g,by simp,by simp [cg],by simp [cg],
  fun b o g=>⟨(a.old b (h.publt g)).trans (h.pub b o g).1,by simp [cg]⟩⟩
 have i:=Inv.step (A:=L) (B:=[]) (by simpa using h) this (fun b o g=>.inl g);simpa using i
theorem Inv.addItem {w0 w w':World} {X:List Nat} {L:List Item} {S:ai} (h:Inv w0 X L S w) (i:Grow w w') {it:Item} (j:it.holds w')
  (hf:∀ b∈it.foot,w.heap.size<=b) (hn:it.foot.Nodup):Inv w0 X (L++[it]) S w':=by
 have g:cg [it]=it.foot:=by simp [cg]
 have:Inv w (cg []) [it] S w':=⟨i.size,i.os,i.tape,i.output,fun b a _=>i.old b a,by simpa using j,by rw [g]; exact hn,
  fun b a=>.inr (hf b (by rwa [g] at a)),fun b o a=>⟨(i.old b (h.publt a)).trans (h.pub b o a).1,fun l=>by
   have:=h.publt a;have:=hf b (by rwa [g] at l);omega⟩⟩
 exact Inv.step (A:=L) (B:=[]) (by simpa using h) this (fun b o a=>.inl a)
theorem Inv.alloc {w0 w:World} {X:List Nat} {L:List Item} {S:ai} (h:Inv w0 X L S w) (o:Obj) :
  Inv w0 X (L++[.blk w.heap.size o]) S { w with heap:=w.heap.push o }:=
 h.addItem (w':={ w with heap:=w.heap.push o }) (it:=.blk w.heap.size o) ⟨by simp,rfl,rfl,rfl,fun b a=>by simp [Array.getElem?_push,Nat.ne_of_lt a]⟩ (by simp [Item.holds]) (by simp [Item.foot]) (by simp [Item.foot])
theorem Inv.draw {w0 w:World} {X:List Nat} {L:List Item} {S:ai} (h:Inv w0 X L S w):Inv w0 X L S { w with drawn:=w.drawn+1 }:=
 h.grow ⟨aY _,rfl,rfl,rfl,fun _ _=>rfl⟩

theorem Al {L:List Item} {i:Nat} {it:Item} (g:L[i]?=some it) (it':Item) :
  L=L.take i++it::L.drop (i+1)/\L.set i it'=L.take i++it'::L.drop (i+1):=by
 have a:i<L.length:=(ie.1 g).1;have h:L[i]=it:=(ie.1 g).2;constructor
 ·conv=>lhs; rw [<- KO i L,ef a,h]
 ·rw [sx,ag a]
theorem Inv.stepAt {w0 w w':World} {X:List Nat} {L:List Item} {S S':ai} (h:Inv w0 X L S w) {i:Nat} {it it':Item} (a:L[i]?=some it)
  {B:List Item} (hc:Inv w (cg [it]) (it'::B) S' w')
  (g:∀ b o,S' b=some o->S b=some o ∨ b∈cg [it] ∨ w.heap.size<=b):Inv w0 X (L.set i it'++B) S' w':=by
 obtain ⟨j,l⟩:=Al a it';have m:List.Perm ((L.take i++L.drop (i+1))++[it]) L:=by
  conv=>rhs; rw [j]
  rw [cN];exact rA _ bD
 have p:List.Perm (L.set i it'++B) ((L.take i++L.drop (i+1))++(it'::B)):=by
  rw [l,cN,cN];refine rA _ ?_;rw [dg];exact zal109.symm
 exact (Inv.step (h.perm m) hc g).perm p
theorem Inv.change {w0 w w':World} {X:List Nat} {L:List Item} {S:ai} (h:Inv w0 X L S w) {i:Nat} {it it':Item} (C:L[i]?=some it)
  (m:w.heap.size<=w'.heap.size) (p:w'.os=w.os) (q:w'.tape=w.tape) (r:w'.output=w.output)
  (j:∀ b,b<w.heap.size->b ∉ it.foot->w'.heap[b]?=w.heap[b]?) (J:it'.holds w') (hf:∀ b∈it'.foot,b∈it.foot ∨ w.heap.size<=b) (hn:it'.foot.Nodup) :
  Inv w0 X (L.set i it') S w':=by
 have D:cg [it]=it.foot:=by simp [cg]
 have t:cg [it']=it'.foot:=by simp [cg]
 have M:it∈L:=f0 C;have l:∀ b o,S b=some o->b ∉ it.foot:=fun b o a g=>(h.pub b o a).2 (py.2 ⟨it,M,g⟩);have hc:Inv w (cg [it]) [it'] S w':=by
  refine ⟨m,p,q,r,fun b a g=>j b a (by rwa [D] at g),by simpa using J,by rw [t]; exact hn,fun b a=>?_,fun b o a=>⟨?_,fun g=>?_⟩⟩
  ·rw [t] at a; rw [D]; exact hf b a
  ·exact (j b (h.publt a) (l b o a)).trans (h.pub b o a).1
  ·rw [t] at g;have:=h.publt a;rcases hf b g with G|G
   ·exact l b o a G
   ·omega
 have:=h.stepAt C (B:=[]) hc fun b o a=>.inl a;simpa using this
theorem Inv.setBlk {w0 w:World} {X:List Nat} {L:List Item} {S:ai} (h:Inv w0 X L S w) {i b:Nat} {o:Obj} (j:L[i]?=some (.blk b o)) (o':Obj) {w':World}
  (l:w'={ w with heap:=w.heap.setIfInBounds b o' }):Inv w0 X (L.set i (.blk b o')) S w':=by
 have m:=h.its _ (f0 j);have g:b<w.heap.size:=Item.lt m b (by simp [Item.foot]);subst l;refine h.change j (by simp) rfl rfl rfl (fun c _ a=>?_) ?_ (fun c hc=>.inl hc) (by simp [Item.foot])
 ·simp only [Item.foot,bM] at a;simp only [];rw [WW (fun e=>a e.symm)]
 ·simp [Item.holds,g]

def oJ (S:ai) (b:Nat) (o:Obj):ai:=fun c=>if c=b then some o else S c
theorem Inv.publish {w0 w:World} {X:List Nat} {L:List Item} {S:ai} (h:Inv w0 X L S w) {i b:Nat} {o:Obj} (j:L[i]?=some (.blk b o)) :
  Inv w0 X (L.eraseIdx i) (oJ S b o) w/\Sle S (oJ S b o):=by
 have r:=h.its _ (f0 j);have g:List.Sublist (L.eraseIdx i) L:=List.eraseIdx_sublist ..;have a:=h.sub g;have l:b ∉ cg (L.eraseIdx i):=by
  obtain ⟨q,_⟩:=Al j (.blk b o);have m:=h.nd;have t:i<L.length:=(ie.1 j).1;have p:List.Perm L (Item.blk b o::L.eraseIdx i):=by
   rw [Xk]
   conv=>lhs; rw [q]
   exact zal109
  have:(cg (Item.blk b o::L.eraseIdx i)).Nodup:=(p.flatMap_right Item.foot).nodup m;simp only [cg,Mi,Item.foot,dg,gW,List.nodup_cons] at this;exact this.1
 refine ⟨⟨a.size,a.os,a.tape,a.output,a.old,a.its,a.nd,a.new,fun c o' hc=>?_⟩,fun c o' hc=>?_⟩
 ·simp only [oJ] at hc;split at hc
  ·rename_i e; subst e
   simp only [bj] at hc;subst hc;exact ⟨r,l⟩
  ·exact a.pub c o' hc
 ·simp only [oJ];split
  ·rename_i e; subst e
   exact absurd (py.2 ⟨_,f0 j,by simp [Item.foot]⟩) (h.pub _ _ hc).2
  ·exact hc

def Ext (n:Nat) (Y:List Nat) (S S':ai):Prop:=Sle S S'/\∀ b o,S' b=some o->S b=some o ∨ b∈Y ∨ n<=b
theorem Ext.refl (n:Nat) (Y:List Nat) (S:ai):Ext n Y S S:=⟨Sle.refl S,fun _ _ h=>.inl h⟩
def Tri (P:Program) (f:FuncId) (args:List Value) (I:List Item) (S:ai) (Post:Value->List Item->ai->Prop):Prop:=
 ∀ w:World,Inv w (cg I) I S w->Calls P f args.toArray w fun e w'=>∃ v I' S',e=.returned v/\Inv w (cg I) I' S' w'/\Ext w.heap.size (cg I) S S'/\Post v I' S'
def Pure (P:Program) (f:FuncId) (args:List Value) (S:ai) (r:Value):Prop:=
 ∀ w:World,Inv w [] [] S w->Calls P f args.toArray w fun e w'=>e=.returned r/\Inv w [] [] S w'

theorem Run.callP {P:Program} {f:FuncId} {fn:Func} {args:List Value} {w:World} {K:Value->World->Prop} (hf:P.funcs[f]?=some fn) (hn:(fn.name == "runtime.NumGoroutine" || fn.body.isNone)=false)
  (h:Calls P f args.toArray w fun
   | .returned v,w'=>K v w'
   | _,_=>False):Run P (gn (.func (.func f) #[] #[]) args) w K:=by
 simp only [QN] at hn
 have a:¬ fn.name = "runtime.NumGoroutine" := by simpa using hn.1
 have g:¬ fn.body=none:=fun e=>by rw [e] at hn; simp at hn
 have e:(gn (.func (.func f) #[] #[]) args).run P w=.ok (.enter f args.toArray) w:=by
  simp [gn,Deferred.ofValue,invoke,callFunc,hf,a,g]
 unfold Run;rw [e];exact h

theorem Run.call {P:Program} {f:FuncId} {fn:Func} {args:List Value} {w w0:World} {X:List Nat} {A I:List Item} {S:ai} {Post:Value->List Item->ai->Prop} {K:Value->World->Prop}
  (hf:P.funcs[f]?=some fn) (hn:(fn.name == "runtime.NumGoroutine" || fn.body.isNone)=false) (h:Inv w0 X (A++I) S w) (hc:Tri P f args I S Post)
  (hk:∀ v I' S' w',Post v I' S'->Sle S S'->Inv w0 X (A++I') S' w'->K v w'):Run P (gn (.func (.func f) #[] #[]) args) w K:=by
 refine Run.callP hf hn ((hc w (h.sub (fj A I)).begin).mono ?_);rintro e w' ⟨v,I',S',rfl,g,a,i⟩;exact hk v I' S' w' i a.1 (Inv.step h g a.2)
theorem Run.callPure {P:Program} {f:FuncId} {fn:Func} {args:List Value} {w w0:World} {X:List Nat} {L:List Item} {S:ai} {r:Value} {K:Value->World->Prop}
  (hf:P.funcs[f]?=some fn) (hn:(fn.name == "runtime.NumGoroutine" || fn.body.isNone)=false) (h:Inv w0 X L S w) (hc:Pure P f args S r)
  (hk:∀ w',Inv w0 X L S w'->K r w'):Run P (gn (.func (.func f) #[] #[]) args) w K:=by
 refine Run.callP hf hn ((hc w h.nil.begin).mono ?_);rintro e w' ⟨rfl,a⟩;have i:=Inv.step (A:=L) (B:=[]) (by simpa using h) a fun b o g=>.inl g;exact hk w' (by simpa using i)
theorem Pure.less {P:Program} {f:FuncId} {args:List Value} {S S':ai} {r:Value} (h:Pure P f args S r) (j:Sle S S'):Pure P f args S' r:=by
 intro w g;refine (h w (g.less j)).mono ?_;rintro e w' ⟨l,a⟩;refine ⟨l,a.size,a.os,a.tape,a.output,a.old,by simp,by simp [cg],by simp [cg],fun b o i=>⟨?_,by simp [cg]⟩⟩;rw [a.old b (g.publt i) (by simp)];exact (g.pub b o i).1
end
section
open Go Go.RowKit

theorem Run.of {P:Program} {s:Sem Next} {w w':World} {v:Value} {K:Value->World->Prop} (h:s.run P w=.ok (.value v) w') (hk:K v w'):Run P s w K:=by
 unfold Run; rw [h]; exact hk
theorem Run.ofSkip {P:Program} {s:Sem Next} {w w':World} {K:Value->World->Prop} (h:s.run P w=.ok .skip w') (hk:K undef w'):Run P s w K:=by
 unfold Run; rw [h]; exact hk

def oL (P:Program) (T:TypeId):Option Nat:=match P.underlying T with
 | some (.struct _)|some (.array _ _)=>(P.info? T).map (·.size)
 | _=>none
def kA (P:Program) (T:TypeId):Bool:=match P.underlying T with
 | some (.struct _)|some (.array _ _)=>false
 | some _=>match P.info? T with
  | some i=>Nat.beq i.size 1
  | none=>false
 | none=>false
def cz (P:Program) (T:TypeId) (f:Nat):Option Nat:=match P.underlying T with
 | some (.struct fs)=>match fs[f]? with
  | some fd=>match P.info? fd.type with
   | some i=>match i.size with
    | 0=>none
    | _+1=>some fd.offset
   | none=>none
  | none=>none
 | _=>none
def dI (P:Program) (T:TypeId):Option (TypeId × Nat):=match P.underlying T with
 | some (.slice e)=>(P.info? e).map fun i=>(e,i.size)
 | _=>none
def gZ (P:Program) (T:TypeId):Option Value:=match P.info? T with
 | some i=>i.zero
 | none=>none

section
variable {P:Program} {w:World}
theorem mM {T:TypeId} {i:TypeInfo} (h:P.info? T=some i):(sizeOf T).run P w=.ok i.size w:=by
 simp [sizeOf,typeInfo,h]
theorem Um {T:TypeId} {z:Value} (h:gZ P T=some z):(zeroValue T).run P w=.ok z w:=by
 unfold gZ at h;split at h
 ·rename_i i a; simp [zeroValue,typeInfo,a,h]
 ·cases h
theorem Io {T:TypeId} {n:Nat} (h:oL P T=some n):(isAgg T).run P w=.ok true w/\(sizeOf T).run P w=.ok n w:=by
 unfold oL at h;split at h
 ·rename_i j g
  cases a:P.info? T with
  | none=>rw [a] at h; cases h
  | some i=>
   rw [a] at h;simp only [jz,bj] at h;subst h;exact ⟨by simp [isAgg,run_underlying g],mM a⟩
 ·rename_i e m g
  cases a:P.info? T with
  | none=>rw [a] at h; cases h
  | some i=>
   rw [a] at h;simp only [jz,bj] at h;subst h;exact ⟨by simp [isAgg,run_underlying g],mM a⟩
 ·cases h
theorem tF {T:TypeId} (h:kA P T=true):(isAgg T).run P w=.ok false w/\(sizeOf T).run P w=.ok 1 w:=by
 unfold kA at h;cases a:P.underlying T with
 | none=>rw [a] at h; cases h
 | some d=>
  rw [a] at h;cases g:P.info? T with
  | none=>rw [g] at h; cases d <;> cases h
  | some i=>
   rw [g] at h;have j:i.size=1:=by cases d <;> simp at h <;> exact h
   refine ⟨?_,by rw [mM g,j]⟩;cases d <;> simp [isAgg,run_underlying a] at h ⊢

theorem add_lit (b o n:Nat):(⟨b,o,none⟩:Addr).add n=⟨b,o+n,none⟩:=by unfold Addr.add; split <;> simp_all

theorem BX {T:TypeId} {n b o:Nat} {cs:List Value} (h:oL P T=some n) (g:cs.length=n) (hc:∀ j v,cs[j]?=some v->w.cell? ⟨b,o+j,none⟩=some v) :
  (loadVar T ⟨b,o,none⟩).run P w=.ok (.agg cs.toArray) w:=by
 obtain ⟨l,m⟩:=Io (w:=w) h;have a:=run_loadCells_list (P:=P) (w:=w) ⟨b,o,none⟩ cs (fun j v i=>by rw [add_lit]; exact hc j v i);rw [g] at a;simp [loadVar,l,m,a]
theorem P6 {T:TypeId} {b o:Nat} {v:Value} (h:kA P T=true) (hc:w.cell? ⟨b,o,none⟩=some v):(loadVar T ⟨b,o,none⟩).run P w=.ok v w:=by
 simp [loadVar,(tF (w:=w) h).1,hc]
end

section mem
variable {P:Program} {w w0:World} {X:List Nat} {L:List Item} {S:ai} {K:Value->World->Prop}

theorem Inv.cellS (h:Inv w0 X L S w) {b o:Nat} {c:Array Value} {E:TypeId} {a:Nat × Nat} (g:S b=some (.cells c E a)):w.cell? ⟨b,o,none⟩=c[o]?:=by
 simp [World.cell?,(h.pub b _ g).1]
theorem Inv.cellL (h:Inv w0 X L S w) {i b o:Nat} {c:Array Value} {E:TypeId} {a:Nat × Nat} (g:L[i]?=some (.blk b (.cells c E a))):w.cell? ⟨b,o,none⟩=c[o]?:=by
 have:=h.its _ (f0 g);simp only [Item.holds] at this;simp [World.cell?,this]

theorem bH (h:Inv w0 X L S w) {T ty:TypeId} {v:Value} (hk:∀ b w',Inv w0 X (L++[.blk b (.cells v.cells T)]) S w'->K (.pointer (some ⟨b,0,none⟩)) w') :
  Run P (sOp (.box T (.const v)) ty) w K:=by
 refine Run.of (v:=.pointer (some ⟨w.heap.size,0,none⟩)) ?_ (hk _ _ (h.alloc _));simp [sOp,execOp,Instr.box,newVar,newRow,newObj,ev0,evE,Sem.run]
theorem aE (h:Inv w0 X L S w) {T ty:TypeId} {z:Value} (a:gZ P T=some z) (hk:∀ b w',Inv w0 X (L++[.blk b (.cells z.cells T)]) S w'->K (.pointer (some ⟨b,0,none⟩)) w') :
  Run P (sOp (.alloc T) ty) w K:=by
 refine Run.of (v:=.pointer (some ⟨w.heap.size,0,none⟩)) ?_ (hk _ _ (h.alloc _));simp [sOp,execOp,Instr.alloc,newVar,newRow,newObj,Um a,Sem.run]
theorem ax {T ty:TypeId} {f b o k:Nat} (hf:cz P T f=some k) (hk:K (.pointer (some ⟨b,o+k,none⟩)) w) :
  Run P (sOp (.fieldAddr T (.const (.pointer (some ⟨b,o,none⟩))) f) ty) w K:=by
 refine Run.of ?_ hk;unfold cz at hf;split at hf <;> try cases hf
 rename_i l h
 split at hf <;> try cases hf
 rename_i m a
 split at hf <;> try cases hf
 rename_i i j
 split at hf <;> try cases hf
 rename_i n hn
 have g:¬ i.size=0:=by omega
 simp [sOp,execOp,Instr.fieldAt,run_underlying h,a,Instr.sureAddr,ev0,evE,fieldPlace,mM j,g,add_lit]
theorem eD {T ty:TypeId} {b o:Nat} {v:Value} (a:kA P T=true) (hc:w.cell? ⟨b,o,none⟩=some v) (hk:K v w) :
  Run P (sOp (.load T (.const (.pointer (some ⟨b,o,none⟩)))) ty) w K:=by
 refine Run.of ?_ hk;simp [sOp,execOp,Instr.loadAt,Instr.sureAddr,ev0,evE,P6 a hc]
theorem eE {T ty:TypeId} {b o n:Nat} {cs:List Value} (a:oL P T=some n) (g:cs.length=n) (hc:∀ j v,cs[j]?=some v->w.cell? ⟨b,o+j,none⟩=some v) (hk:K (.agg cs.toArray) w) :
  Run P (sOp (.load T (.const (.pointer (some ⟨b,o,none⟩)))) ty) w K:=by
 refine Run.of ?_ hk;simp [sOp,execOp,Instr.loadAt,Instr.sureAddr,ev0,evE,BX a g hc]
theorem aG (h:Inv w0 X L S w) {T ty:TypeId} (i:Nat) {b o:Nat} {c:Array Value} {E:TypeId} {v:Value} (a:kA P T=true) (g:L[i]?=some (.blk b (.cells c E))) (hc:c[o]?=some v) (hk:K v w) :
  Run P (sOp (.load T (.const (.pointer (some ⟨b,o,none⟩)))) ty) w K:=
 eD a ((h.cellL g).trans hc) hk
theorem gd (h:Inv w0 X L S w) {T ty:TypeId} (i:Nat) {b o n:Nat} {c:Array Value} {E:TypeId} (cs:List Value) (a:oL P T=some n) (g:L[i]?=some (.blk b (.cells c E))) (l:cs.length=n)
  (hc:∀ j v,cs[j]?=some v->c[o+j]?=some v) (hk:K (.agg cs.toArray) w):Run P (sOp (.load T (.const (.pointer (some ⟨b,o,none⟩)))) ty) w K:=
 eE a l (fun j v m=>(h.cellL g).trans (hc j v m)) hk
theorem aq (h:Inv w0 X L S w) {T ty:TypeId} (i:Nat) {b n:Nat} {c:Array Value} {E:TypeId} (a:oL P T=some n) (g:L[i]?=some (.blk b (.cells c E))) (l:c.size=n)
  (hk:K (.agg c) w):Run P (sOp (.load T (.const (.pointer (some ⟨b,0,none⟩)))) ty) w K:=by
 refine gd h i (o:=0) c.toList a g (by simpa using l) (fun j v m=>by simpa using m) ?_;simpa using hk
theorem be (h:Inv w0 X L S w) {T:TypeId} {K:Value->Prop} (i:Nat) {b n:Nat} {c:Array Value} {E:TypeId} (a:oL P T=some n) (g:L[i]?=some (.blk b (.cells c E))) (l:c.size=n)
  (hk:K (.agg c)):bg P T (.pointer (some ⟨b,0,none⟩)) w K:=by
 unfold bg;refine ⟨_,?_,hk⟩;have:=BX (w:=w) (P:=P) (b:=b) (o:=0) (cs:=c.toList) a (by simpa using l) (fun j v m=>by
  rw [h.cellL g]; simpa using m)
 simpa [asAddr] using this

def cu (c:Array Value) (o:Nat) (vs:List Value):Array Value:=(c.toList.take o++vs++c.toList.drop (o+vs.length)).toArray
theorem IJ {w:World} {g:Nat} {c cs:Array Value} {E:TypeId} {j:Nat × Nat} (a:w.heap[g]?=some (.cells c E j)) :
  w.setRow g cs={ w with heap:=w.heap.setIfInBounds g (.cells cs E j) }:=by
 have h:=(W2.1 a).1;have l:=(W2.1 a).2;unfold World.setRow
 congr 1
 apply Array.ext_getElem?;intro i;by_cases e:g=i
 ·subst e;rw [Array.getElem?_modify,ag rfl,a];simp [h]
 ·rw [WW e,Array.getElem?_modify,ae e]
theorem eV (h:Inv w0 X L S w) {T ty:TypeId} (i:Nat) {b o:Nat} {c:Array Value} {E:TypeId} {v:Value} {n:Nat} (hn:v.cells.size=n) (p:(kA P T && Nat.beq n 1 || oL P T == some n)=true)
  (q:L[i]?=some (.blk b (.cells c E))) (a:o+n<=c.size) (r:∀ u∈v.cells.toList,u.oneCell'=true)
  (hk:∀ w',Inv w0 X (L.set i (.blk b (.cells (cu c o v.cells.toList) E))) S w'->K undef w') :
  Run P (sOp (.store T (.const (.pointer (some ⟨b,o,none⟩))) (.const v)) ty) w K:=by
 have j:=h.its _ (f0 q);simp only [Item.holds] at j;have l:(sizeOf T).run P w=.ok n w:=by
  simp only [na,bQ,beq_iff_eq] at p;rcases p with ⟨m,t⟩|m
  ·rw [(tF (w:=w) m).2,Ey t]
  ·exact (Io (w:=w) m).2
 have g:=run_storeCells_at P b o E v.cells.toList 0 c w j (by simpa [hn] using a) r;refine Run.ofSkip (w':=w.setRow b (cu c o v.cells.toList)) ?_ (hk _ (h.setBlk q _ (IJ j)));simp only [s4] at g;simp [sOp,execOp,Instr.storeAt,Instr.sureAddr,ev0,evE,storeVar,l,hn,g,cu]
theorem aN {T ty E:TypeId} {k b o len cap i:Nat} (a:dI P T=some (E,k)) (g:i<len) (hk:K (.pointer (some ⟨b,o+i * k,none⟩)) w) :
  Run P (sOp (.indexAddr T (.const (.slice (some ⟨b,o,none⟩) len cap)) (.const (.int .i64 i))) ty) w K:=by
 refine Run.of ?_ hk;unfold dI at a;split at a <;> try cases a
 rename_i e j
 cases h:P.info? e with
 | none=>rw [h] at a; cases a
 | some l=>
  rw [h] at a;simp only [jz,bj,c9] at a;obtain ⟨rfl,rfl⟩:=a;have m:(0:Int)<=(i:Int)/\(i:Int)<(len:Int):=⟨by omega,by omega⟩
  simp [sOp,execOp,Instr.indexAt,asIntOf,run_underlying j,ev0,evE,mM h,g,add_lit]
end mem

section pure
variable {P:Program} {w:World} {K:Value->World->Prop}
theorem bh {ty:TypeId} {a:Addr} (hk:K (.pointer (some a)) w):Run P (sOp (.nilCheck (.const (.pointer (some a)))) ty) w K:=
 Run.of (by simp [sOp,execOp,ev0,evE]) hk
theorem wa {ty:TypeId} {c:Bool} {a b:Value} (hk:K (if c=true then a else b) w):Run P (sOp (.pick (.const (.bool c)) (.const a) (.const b)) ty) w K:=
 Run.of (by simp [sOp,execOp,ev0,evE,asBool]) hk
theorem c8 {T ty:TypeId} {c:Bool} (hk:K (.bool (!c)) w):Run P (sOp (.unOp .not T (.const (.bool c))) ty) w K:=
 Run.of (by simp [sOp,execOp,ev0,evE,Op.unary]) hk
theorem aA {ty:TypeId} {vs:Array Value} {i:Nat} {v:Value} (a:vs[i]?=some v) (hk:K v w):Run P (sOp (.extract (.const (.tuple vs)) i) ty) w K:=
 Run.of (by simp [sOp,execOp,ev0,evE,Instr.extract,a]) hk
theorem vN {fn:Fn} {a b:List Value} (hk:K (.func fn a.toArray b.toArray) w):Run P (fY fn a b) w K:=
 Run.of (by simp [fY,Instr.makeFunc]) hk
theorem eK (op:BinOp) (T:TypeId) (x y:Operand) (k g:IntKind) (a b:Int):(eqGuard op T x y (.int k a) (.int g b)).run P w=.ok () w:=by
 unfold eqGuard; simp
theorem su (op:BinOp) (T:TypeId) (x y:Operand) (a b:ByteArray):(eqGuard op T x y (.string a) (.string b)).run P w=.ok () w:=by
 unfold eqGuard; simp
theorem Lj (op:BinOp) (T:TypeId) (x y:Operand) (a b:Bool):(eqGuard op T x y (.bool a) (.bool b)).run P w=.ok () w:=by
 unfold eqGuard; simp
theorem bL {T:TypeId} {g h:Bool} {a b:Int} (i:-9223372036854775808<=a+b/\a+b<=9223372036854775807) (hk:K (.int .i64 (a+b)) w):Run P (el .add T g h (.int .i64 a) (.int .i64 b)) w K:=
 Run.of (by simp [el,eK,binOp,Op.intArith,IntWalk.i64_in _ i]) hk
theorem jl {T:TypeId} {g h:Bool} {a b:Int} (i:-9223372036854775808<=a - b/\a - b<=9223372036854775807) (hk:K (.int .i64 (a - b)) w):Run P (el .sub T g h (.int .i64 a) (.int .i64 b)) w K:=
 Run.of (by simp [el,eK,binOp,Op.intArith,IntWalk.i64_in _ i]) hk
theorem cd {T:TypeId} {g h:Bool} {k:IntKind} {a b:Int} (hk:K (.bool (decide (a<b))) w):Run P (el .lss T g h (.int k a) (.int k b)) w K:=
 Run.of (by simp [el,eK,binOp,Op.intCmp]) hk
theorem jK {T:TypeId} {g h:Bool} {k:IntKind} {a b:Int} (hk:K (.bool (decide (a<=b))) w):Run P (el .leq T g h (.int k a) (.int k b)) w K:=
 Run.of (by simp [el,eK,binOp,Op.intCmp]) hk
theorem fL {T:TypeId} {g h:Bool} {k:IntKind} {a b:Int} (hk:K (.bool (decide (b<a))) w):Run P (el .gtr T g h (.int k a) (.int k b)) w K:=
 Run.of (by simp [el,eK,binOp,Op.intCmp]) hk
theorem iK {T:TypeId} {g h:Bool} {k:IntKind} {a b:Int} (hk:K (.bool (decide (b<=a))) w):Run P (el .geq T g h (.int k a) (.int k b)) w K:=
 Run.of (by simp [el,eK,binOp,Op.intCmp]) hk
theorem a9 {T:TypeId} {g h:Bool} {k:IntKind} {a b:Int} (hk:K (.bool (decide (a=b))) w):Run P (el .eql T g h (.int k a) (.int k b)) w K:=
 Run.of (by simp [el,eK,binOp,Op.intCmp]; rfl) hk
theorem jN {T:TypeId} {g h:Bool} {k:IntKind} {a b:Int} (hk:K (.bool (!decide (a=b))) w):Run P (el .neq T g h (.int k a) (.int k b)) w K:=
 Run.of (by simp [el,eK,binOp,Op.intCmp]; rfl) hk
theorem Ov (a:ByteArray):∀ (n i:Nat) (r:List UInt8),a.size - i=n->ByteArray.toList.loop a i r=r.reverse++a.data.toList.drop i:=by
 intro n;induction n with
 | zero=>
  intro i r hn;unfold ByteArray.toList.loop;have h:¬ i<a.size:=by omega
  have g:a.data.toList.length<=i:=by
   have e:a.data.toList.length=a.size:=by rw [Ox]; rfl
   omega
  rw [ae h,uY g,dk]
 | succ n m=>
  intro i r hn;unfold ByteArray.toList.loop;have h:i<a.size:=by omega
  have g:i<a.data.toList.length:=by
   have e:a.data.toList.length=a.size:=by rw [Ox]; rfl
   omega
  rw [ag h,m (i+1) _ (by omega),ef g];have j:i<a.data.size:=by simpa using g
  have l:a.get! i=a.data.toList[i]:=by
   show a.data[i]! = _;rw [getElem!_pos a.data i j,Array.getElem_toList]
  rw [l,List.reverse_cons,cN];rfl
theorem zE (a:ByteArray):a.toList=a.data.toList:=by
 unfold ByteArray.toList;rw [Ov a _ 0 [] rfl];rfl
theorem zI (a b:ByteArray):(a.toList == b.toList)=decide (a=b):=by
 rw [zE,zE,sD];simp only [beq_iff_eq,bK];constructor
 ·intro h;cases a; cases b;simp only [ByteArray.mk.injEq];exact Da.1 h
 ·rintro rfl; rfl
theorem bT {T:TypeId} {g h:Bool} {a b:ByteArray} (hk:K (.bool (decide (a=b))) w):Run P (el .eql T g h (.string a) (.string b)) w K:=
 Run.of (by simp only [el,binOp,Op.stringOp,Sem.run_bind,su,Result.andThen_ok,Sem.run_pure,zI]) hk
theorem Ji {T:TypeId} {g h:Bool} {a b:ByteArray} (hk:K (.bool (!decide (a=b))) w):Run P (el .neq T g h (.string a) (.string b)) w K:=
 Run.of (by simp only [el,binOp,Op.stringOp,Sem.run_bind,su,Result.andThen_ok,Sem.run_pure,zI]) hk
theorem Pa {T:TypeId} {g h:Bool} {a b:Bool} (i:P.underlying T=some .bool) (hk:K (.bool (!(a == b))) w):Run P (el .neq T g h (.bool a) (.bool b)) w K:=
 Run.of (by
  have j:(Op.equal T (.bool a) (.bool b)).run P w=.ok (a == b) w:=by
   rw [Op.equal,Op.maxDepth,Op.equalIn.eq_def];simp [run_underlying i]
  simp only [el,binOp,Sem.run_bind,Lj,Result.andThen_ok,j,Sem.run_pure]) hk
theorem mV {T ty:TypeId} {cs:List Bool} {s:ByteArray} (a:P.underlying T=some .string) (hk:K (.int .i64 s.size) w):Run P (co .len #[T] ty cs [.string s]) w K:=
 Run.of (by simp [co,builtin,Builtin.len_,run_underlying a,goInt]) hk
theorem iP {T ty:TypeId} {cs:List Bool} {a:Option Addr} {n c:Nat} {Ek:TypeId × Nat} (g:dI P T=some Ek) (hk:K (.int .i64 n) w):Run P (co .len #[T] ty cs [.slice a n c]) w K:=by
 refine Run.of ?_ hk;unfold dI at g;split at g <;> try cases g
 rename_i e h
 simp [co,builtin,Builtin.len_,run_underlying h,goInt]
theorem mX {T ty:TypeId} {s:ByteArray} {i:Nat} (a:P.underlying T=some .string) (g:i<s.size) (hk:K (.int .u8 s[i].toNat) w) :
  Run P (sOp (.index T (.const (.string s)) (.const (.int .i64 i))) ty) w K:=by
 refine Run.of ?_ hk;have h:(0:Int)<=(i:Int):=by omega
 simp [sOp,execOp,Instr.index,asIntOf,run_underlying a,ev0,evE,g]
end pure

theorem aL {c:Bool} {A B:Prop} (a:c=true->A) (hf:c=false->B):CondV (.bool c) A B:=by
 unfold CondV;cases c
 ·exact hf rfl
 ·exact a rfl
theorem aJ {p:Prop} [Decidable p] {A B:Prop} (a:p->A) (hf:¬ p->B):CondV (.bool (decide p)) A B:=
 aL (fun h=>a (of_decide_eq_true h)) (fun h=>hf (of_decide_eq_false h))
theorem Qo {c b:Bool} {A B:Prop} (a:c=b->A) (hf:c≠b->B):aI (.bool c) b A B:=by
 unfold aI;simp only [];split
 ·rename_i e; exact a e
 ·rename_i e; exact hf e
end
section
open Go Go.RowKit
attribute [local irreducible] Run CondV aI bg

def inI (n:Int):Prop:=-9223372036854775808<=n/\n<=9223372036854775807

inductive T where
 | mk (kind n:Int) (name:ByteArray) (kids:List T)
namespace T
def kind:T->Int
 | .mk k _ _ _=>k
def n:T->Int
 | .mk _ n _ _=>n
def name:T->ByteArray
 | .mk _ _ s _=>s
def kids:T->List T
 | .mk _ _ _ ks=>ks
theorem ind {p:T->Prop} (h:∀ k n s ks,(∀ t∈ks,p t)->p (.mk k n s ks)) (t:T):p t:=
 T.rec (motive_1:=p) (motive_2:=fun l=>∀ t∈l,p t) (fun k n s ks i=>h k n s ks i) (by simp) (fun a l j m t g=>by
  rcases dK.1 g with rfl|g
  ·exact j
  ·exact m t g) t
end T
structure C where
 head:T
 body:List T

def bJ (c:Array Value) (o k:Nat):List Value:=(c.toList.drop o).take k
def RdSl {α:Type} (S:ai) (k:Nat) (R:List Value->α->Prop) (v:Value) (xs:List α):Prop:=
 ∃ a cap,v=.slice a xs.length cap/\xs.length<=cap/\cap<=maxLen/\
  (xs=[] ∨ ∃ b o c E fz,a=some ⟨b,o,none⟩/\S b=some (.cells c E fz)/\∀ i (h:i<xs.length),R (bJ c (o+i * k) k) xs[i])
inductive RdT (S:ai):List Value->T->Prop
 | nil {k n:Int} {s:ByteArray} {a:Option Addr} {cap:Nat} (hk:inI k) (hn:inI n) (hs:s.size<=maxLen) (hc:cap<=maxLen) :
   RdT S [.int .i64 k,.int .i64 n,.string s,.slice a 0 cap] (.mk k n s [])
 | cons {k n:Int} {s:ByteArray} {kids:List T} {b o cap:Nat} {c:Array Value} {E:TypeId} {fz:Nat × Nat} (hk:inI k) (hn:inI n) (hs:s.size<=maxLen) (hl:kids.length<=cap) (hc:cap<=maxLen)
   (hS:S b=some (.cells c E fz)) (h:∀ i (h:i<kids.length),RdT S (bJ c (o+i * 4) 4) kids[i]) :
   RdT S [.int .i64 k,.int .i64 n,.string s,.slice (some ⟨b,o,none⟩) kids.length cap] (.mk k n s kids)
theorem RdT.iff {S:ai} {cs:List Value} {t:T}:RdT S cs t ↔
  ∃ ks,cs=[.int .i64 t.kind,.int .i64 t.n,.string t.name,ks]/\inI t.kind/\inI t.n/\t.name.size<=maxLen/\RdSl S 4 (RdT S) ks t.kids:=by
 constructor
 ·intro h;cases h with
  | nil hk hn g hc=>exact ⟨_,rfl,hk,hn,g,_,_,rfl,aT _,hc,.inl rfl⟩
  | cons hk hn g i hc j h=>exact ⟨_,rfl,hk,hn,g,_,_,rfl,i,hc,.inr ⟨_,_,_,_,_,rfl,j,h⟩⟩
 ·obtain ⟨k,n,s,kids⟩:=t;rintro ⟨ks,rfl,hk,hn,g,a,cap,rfl,i,hc,h⟩;rcases h with h|⟨b,o,c,E,l,rfl,j,h⟩
  ·simp only [T.kids] at h;subst h;exact RdT.nil hk hn g hc
  ·exact RdT.cons hk hn g i hc j h
theorem RdT.length {S:ai} {cs:List Value} {t:T} (h:RdT S cs t):cs.length=4:=by
 obtain ⟨ks,rfl,_⟩:=RdT.iff.1 h; rfl
theorem RdT.mono {S S':ai} (a:Sle S S') {cs:List Value} {t:T} (h:RdT S cs t):RdT S' cs t:=by
 induction h with
 | nil hk hn a hc=>exact RdT.nil hk hn a hc
 | cons hk hn g i hc j _ l=>exact RdT.cons hk hn g i hc (a _ _ j) l
theorem RdSl.mono {α:Type} {S S':ai} {k:Nat} {R R':List Value->α->Prop} {v:Value} {xs:List α} (g:Sle S S') (hR:∀ cs x,R cs x->R' cs x) (h:RdSl S k R v xs):RdSl S' k R' v xs:=by
 obtain ⟨a,cap,rfl,l,hc,h⟩:=h;refine ⟨a,cap,rfl,l,hc,?_⟩;rcases h with h|⟨b,o,c,E,m,p,q,h⟩
 ·exact .inl h
 ·exact .inr ⟨b,o,c,E,m,p,g _ _ q,fun i j=>hR _ _ (h i j)⟩
theorem RdSl.monoT {S S':ai} {v:Value} {xs:List T} (a:Sle S S') (h:RdSl S 4 (RdT S) v xs):RdSl S' 4 (RdT S') v xs:=h.mono a fun _ _=>RdT.mono a
def RdC (S:ai) (cs:List Value) (c:C):Prop:=∃ hd ks,cs=hd++[ks]/\RdT S hd c.head/\RdSl S 4 (RdT S) ks c.body
theorem RdC.length {S:ai} {cs:List Value} {c:C} (h:RdC S cs c):cs.length=5:=by
 obtain ⟨a,ks,rfl,h,_⟩:=h; simp [h.length]
theorem RdC.mono {S S':ai} (a:Sle S S') {cs:List Value} {c:C} (h:RdC S cs c):RdC S' cs c:=by
 obtain ⟨g,ks,rfl,i,j⟩:=h; exact ⟨g,ks,rfl,i.mono a,j.monoT a⟩
theorem RdSl.at_ {α:Type} {S:ai} {k:Nat} {R:List Value->α->Prop} {v:Value} {xs:List α} (h:RdSl S k R v xs) {i:Nat} (j:i<xs.length) :
  ∃ b o cap c E g,v=.slice (some ⟨b,o,none⟩) xs.length cap/\S b=some (.cells c E g)/\R (bJ c (o+i * k) k) xs[i]:=by
 obtain ⟨a,cap,rfl,m,hc,h⟩:=h;rcases h with h|⟨b,o,c,E,g,rfl,l,h⟩
 ·subst h; simp at j
 ·exact ⟨b,o,cap,c,E,g,rfl,l,h i j⟩
theorem RdSl.le {α:Type} {S:ai} {k:Nat} {R:List Value->α->Prop} {v:Value} {xs:List α} (h:RdSl S k R v xs):xs.length<=maxLen:=by
 obtain ⟨a,cap,rfl,g,hc,h⟩:=h; exact il g hc
theorem bf {c:Array Value} {o k:Nat} {cs:List Value} (e:bJ c o k=cs):∀ j v,cs[j]?=some v->c[o+j]?=some v:=by
 intro j v h;subst e;rw [bJ,wA] at h;split at h
 ·rw [xy] at h; simpa using h
 ·cases h

section
variable {P:Program} {w w0:World} {X:List Nat} {L:List Item} {S:ai} {K:Value->World->Prop}
theorem aO {α:Type} {T ty:TypeId} {cs:List Bool} {k:Nat} {R:List Value->α->Prop} {v:Value} {xs:List α} {Ek:TypeId × Nat} (h:RdSl S k R v xs) (g:dI P T=some Ek)
  (hk:K (.int .i64 xs.length) w):Run P (co .len #[T] ty cs [v]) w K:=by
 obtain ⟨a,cap,rfl,_⟩:=h;exact iP g hk
def elP (v:Value) (n:Nat):Value:=match v with
 | .slice (some a) _ _=>.pointer (some ⟨a.block,a.off+n,none⟩)
 | _=>undef
def elQ (v:Value) (n d:Nat):Value:=match v with
 | .slice (some a) _ _=>.pointer (some ⟨a.block,a.off+n+d,none⟩)
 | _=>undef
section
variable {K:Value->Value->World->Prop} {K3:Value->Value->Value->World->Prop}
theorem dj {α:Type} {T U ty g E:TypeId} {k:Nat} {R:List Value->α->Prop} {v:Value} {xs:List α} (m:Inv w0 X L S w) (h:RdSl S k R v xs) (q:dI P T=some (E,k)) (r:oL P U=some k)
  {i:Nat} (l:i<xs.length) (a:∀ cs x,R cs x->cs.length=k) (hk:∀ cs,R cs xs[i]->K (elP v (i * k)) (.agg cs.toArray) w) :
  Run P (sOp (.indexAddr T (.const v) (.const (.int .i64 i))) ty) w fun p w'=>Run P (sOp (.load U (.const p)) g) w' (K p):=by
 obtain ⟨b,o,cap,c,E',C,rfl,B,hR⟩:=h.at_ l;refine aN q l ?_;refine eE r (a _ _ hR) (fun j v t=>?_) (hk _ hR);rw [m.cellS B];exact bf rfl j v t
theorem WE {α:Type} {T Tf U ty g a E:TypeId} {k f d:Nat} {R:List Value->α->Prop} {v u:Value} {xs:List α} (m:Inv w0 X L S w) (h:RdSl S k R v xs) (r:dI P T=some (E,k)) (hf:cz P Tf f=some d) (t:kA P U=true)
  {i:Nat} (l:i<xs.length) (hc:∀ cs,R cs xs[i]->cs[d]?=some u) (hk:K3 (elP v (i * k)) (elQ v (i * k) d) u w) :
  Run P (sOp (.indexAddr T (.const v) (.const (.int .i64 i))) ty) w fun p w'=>Run P (sOp (.fieldAddr Tf (.const p) f) g) w' fun q j=>Run P (sOp (.load U (.const q)) a) j (K3 p q):=by
 obtain ⟨b,o,cap,c,E',C,rfl,B,hR⟩:=h.at_ l;refine aN r l ?_;refine ax hf ?_;refine eD t ?_ hk;rw [m.cellS B];exact bf rfl d u (hc _ hR)
theorem ah {T U ty a E:TypeId} {f d b:Nat} {c:Array Value} {u:Value} (g:Inv w0 X L S w) (i:Nat) (h:L[i]?=some (.blk b (.cells c E))) (hf:cz P T f=some d) (j:kA P U=true) (hc:c[d]?=some u)
  (hk:K (.pointer (some ⟨b,d,none⟩)) u w):Run P (sOp (.fieldAddr T (.const (.pointer (some ⟨b,0,none⟩))) f) ty) w fun q w'=>Run P (sOp (.load U (.const q)) a) w' (K q):=by
 refine ax hf ?_;rw [cS];exact aG g i j h hc hk
end
end
theorem Pure.mk {P:Program} {f:FuncId} {args:List Value} {S:ai} {r:Value} (h:∀ w:World,Inv w [] [] S w->Calls P f args.toArray w fun e w'=>e=.returned r/\Inv w [] [] S w'):Pure P f args S r:=h
theorem done {w w':World} {L:List Item} {S:ai} {r a:Value} (h:Inv w [] L S w') (e:a=r):Ending.returned a=.returned r/\Inv w [] [] S w':=⟨by rw [e],h.nil⟩

section
variable {P:Program} {w:World} {K:Value->World->Prop} {ty:TypeId}
theorem cw {b:Bool} {A B:Prop} (h:A):aI (.bool b) b A B:=by unfold aI; simp only [if_true]; exact h
theorem eY {c b:Bool} {A B:Prop} (hc:c≠b) (h:B):aI (.bool c) b A B:=by unfold aI; simp only [ae hc]; exact h
theorem N5 {b:Bool} {A B:Prop} (h:B):aI undef b A B:=by unfold aI; exact h
theorem DI {v u:Value} (hk:K v w):Run P (sOp (.pick (.const (.bool true)) (.const v) (.const u)) ty) w K:=wa hk
theorem tY {v u:Value} (hk:K u w):Run P (sOp (.pick (.const (.bool false)) (.const v) (.const u)) ty) w K:=wa hk
theorem rpG {p q:Prop} (h:q) (i:q->p:=by (intro h; (repeat (first|refine cw ?_|refine eY (by decide) ?_|refine N5 ?_|refine DI ?_|refine tY ?_)); exact h)):p:=i h
end
end
section
open Go Go.RowKit
attribute [local irreducible] Run CondV aI bg

def jX (P:Program) (T:TypeId):Option (TypeId × Nat × Nat × Value):=match P.underlying T with
 | some (.slice e)=>match P.info? e with
  | some i=>match i.zero with
   | some z=>match Nat.beq z.cells.size i.size with
    | true=>some (e,i.size,i.bytes,z)
    | false=>none
   | none=>none
  | none=>none
 | _=>none
theorem kN {P:Program} {T e:TypeId} {k a:Nat} {z:Value} (h:jX P T=some (e,k,a,z)) :
  P.underlying T=some (.slice e)/\∃ i,P.info? e=some i/\i.zero=some z/\i.size=k/\i.bytes=a/\z.cells.size=k:=by
 unfold jX at h;split at h <;> try cases h
 rename_i o g
 split at h <;> try cases h
 rename_i i j
 split at h <;> try cases h
 rename_i p l
 split at h <;> try cases h
 rename_i m
 exact ⟨g,i,j,l,rfl,rfl,Ey m⟩

theorem Mw:∀ (l:List Value) (o j:Nat) (cs:Array Value),o+j+l.length<=cs.size->
  (l.zipIdx j).foldl (fun cs p=>cs.setIfInBounds (o+p.2) p.1) cs=cu cs (o+j) l
 | [],o,j,cs,_=>by simp [cu]
 | v::l,o,j,cs,h=>by
  simp only [aP] at h;rw [List.zipIdx_cons,List.foldl_cons,Mw l o (j+1) _ (by simp; omega)];apply Da.1;simp only [cu,aP];rw [W4,show o+(j+1)=o+j+1 by omega];have a:o+j<cs.toList.length:=by simp; omega
  rw [gt (by simpa using a),List.take_set_of_le (aY _)];simp only [LF,cN,dg,gW];rw [List.drop_set_of_lt (by omega),show o+j+1+l.length=o+j+(l.length+1) by omega]
theorem Mk (v:Value) (o:Nat) (cs:Array Value) (h:o+v.cells.size<=cs.size) :
  v.cells.zipIdx.foldl (fun cs (c,j)=>cs.setIfInBounds (o+j) c) cs=cu cs o v.cells.toList:=by
 rw [<- Array.foldl_toList,Array.toList_zipIdx];exact Mw v.cells.toList o 0 cs (by simpa using h)
theorem gw (c:Array Value) (o:Nat) (vs:List Value) (h:o+vs.length<=c.size):(cu c o vs).size=c.size:=by
 simp [cu]; omega
theorem zt (c:Array Value) (vs:List Value) (h:vs.length=c.size):cu c 0 vs=vs.toArray:=by
 simp [cu,h]
theorem iF {c:Array Value} {o:Nat} {vs:List Value} {p k:Nat} (hf:o+vs.length<=c.size) (h:p+k<=o ∨ o+vs.length<=p):bJ (cu c o vs) p k=bJ c p k:=by
 apply Oi;intro i;simp only [bJ,cu,wA,xy];split
 ·rename_i a
  simp only [List.getElem?_append,bt,ig,wA,xy,Ox];rcases h with h|h
  ·rw [ag (by omega),ag (by omega),ag (by omega)]
  ·rw [ae (by omega)]
   congr 1
   omega
 ·rfl
theorem gE {c:Array Value} {o:Nat} {vs:List Value} (hf:o+vs.length<=c.size):bJ (cu c o vs) o vs.length=vs:=by
 simp only [bJ,cu];rw [cN,Q0 (by simp; omega),uY (by simp; omega),gW,List.take_left]

section
variable {P:Program} {w w0:World} {X:List Nat} {L:List Item} {S:ai} {K:Value->World->Prop}

theorem M3 (h:Inv w0 X L S w) {T ty e:TypeId} {k a n:Nat} {z:Value} (B:jX P T=some (e,k,a,z)) (hn:n<=4294967296) (j:a<=65536)
  (hk:∀ b (c:Array Value) w',c.size=n * k->Inv w0 X (L++[.blk b (.cells c e)]) S w'->K (.slice (some ⟨b,0,none⟩) n n) w') :
  Run P (sOp (.makeSlice T (.const (.int .i64 n)) (.const (.int .i64 n))) ty) w K:=by
 obtain ⟨m,i,o,C,p,D,G⟩:=kN B;have q:IntKind.i64.wrap (n:Int)=n:=IntWalk.i64_in _ (by omega);have l:a * n<=2 ^ 48:=il (Kl j hn) (by decide);have r:¬ ((n:Int)<0):=by omega
 have t:¬ (281474976710656<(i.bytes:Int) * (n:Int)):=by
  rw [D];have:((a * n:Nat):Int)<=((2 ^ 48:Nat):Int):=by exact_mod_cast l
  have e:(((2 ^ 48:Nat)):Int)=281474976710656:=by decide
  rw [e,Int.natCast_mul] at this;omega
 by_cases g:n * k=0
 ·refine Run.of (v:=.slice (some ⟨w.heap.size,0,none⟩) n n) (w':={ w with heap:=w.heap.push (.cells #[] e) }) ?_ (hk _ _ _ (by simp [g]) (h.alloc _));have J:∀ f:Nat->Value,(Array.range 0).map f=#[]:=fun f=>by simp
  simp [sOp,execOp,ev0,evE,Instr.makeSlice,run_underlying m,asInt,asIntOf,typeInfo,o,q,r,t,sizeOf,p,newRow,newObj,Sem.run,g,J]
 ·refine Run.of (v:=.slice (some ⟨w.heap.size,0,none⟩) n n) (w':={ w with heap:=w.heap.push (.cells ((Array.range (n * k)).map (z.cells[· % z.cells.size]!)) e) }) ?_ (hk _ _ _ (by simp) (h.alloc _));simp [sOp,execOp,ev0,evE,Instr.makeSlice,run_underlying m,asInt,asIntOf,typeInfo,o,q,r,t,sizeOf,p,newRow,newObj,Sem.run,g,zeroValue,C]

theorem pa (h:Inv w0 X L S w) {T e:TypeId} {k a:Nat} {z v:Value} (l:jX P T=some (e,k,a,z)) (g:v.cells.size=k) (j:k<=65536) (m:0<k)
  (hk:∀ w',Inv w0 X (L++[.blk w.heap.size (.cells v.cells e)]) S w'->K (.slice (some ⟨w.heap.size,0,none⟩) 1 1) w') :
  Run P (cf T 1 [(0,v)]) w K:=by
 obtain ⟨o,i,p,q,r,D,t⟩:=kN l;refine Run.of (v:=.slice (some ⟨w.heap.size,0,none⟩) 1 1) (w':={ w with heap:=w.heap.push (.cells v.cells e) }) ?_ (hk _ (h.alloc _));have B:¬ (k > 2 ^ 24):=by omega
 have C:¬ k=0:=by omega
 have hf:Instr.fill (fun i=>some (i * k,k)) ((Array.range k).map (z.cells[· % z.cells.size]!)) [(0,v)]=some v.cells:=by
  simp only [Instr.fill,l5,cS,g,Array.size_map,Array.size_range,ne_eq,not_true_eq_false,decide_false,gt_iff_lt,Nat.lt_irrefl,Bool.or_self,if_false,ta];have:=Mk v 0 ((Array.range k).map (z.cells[· % z.cells.size]!)) (by simp [g]);simp only [cS] at this;rw [this,zt _ _ (by simp [g])]
 simp [cf,Instr.buildSlice,run_underlying o,sizeOf,typeInfo,p,r,B,C,zeroValue,q,hf,newRow,newObj,Sem.run]
theorem eO (h:Inv w0 X L S w) {T e:TypeId} {k g:Nat} {z v:Value} (j:jX P T=some (e,k,g,z)) (l:v.cells.size=k) (a:k<=65536) (i:0<k)
  (hk:∀ b w',Inv w0 X (L++[.blk b (.cells v.cells e)]) S w'->K (.slice (some ⟨b,0,none⟩) 1 1) w') :
  Run P (cf T 1 [(0,v)]) w K:=pa h j l a i (hk _)
theorem eZ (h:Inv w0 X L S w) {T e:TypeId} {k a:Nat} {z:Value} (j:jX P T=some (e,k,a,z))
  (hk:∀ v w',Inv w0 X (L++[.row v e k 0 []]) S w'->K v w') :
  Run P (cf T 0 []) w K:=by
 obtain ⟨l,i,m,r,t,g,o⟩:=kN j;have p:Inv w0 X (L++[.row (.slice (some ⟨w.heap.size,0,none⟩) 0 0) e k 0 []]) S { w with heap:=w.heap.push (.cells #[] e) }:=by
  refine h.addItem (w':={ w with heap:=w.heap.push (.cells #[] e) }) ⟨by simp,rfl,rfl,rfl,fun b g=>by simp [Array.getElem?_push,Nat.ne_of_lt g]⟩ ?_ ?_ ?_
  ·exact ⟨by simp,.inr ⟨w.heap.size,0,#[],rfl,aT _,by simp,aY _,aT _,by simp,by simp⟩⟩
  ·simp [Item.foot,Value.ownBlock]
  ·simp [Item.foot,Value.ownBlock]
 refine Run.of (v:=.slice (some ⟨w.heap.size,0,none⟩) 0 0) (w':={ w with heap:=w.heap.push (.cells #[] e) }) ?_ (hk _ _ p);have q:∀ f:Nat->Value,(Array.range 0).map f=#[]:=fun f=>by simp
 simp [cf,Instr.buildSlice,run_underlying l,sizeOf,typeInfo,m,Instr.fill,newRow,newObj,Sem.run,q]

theorem Inv.rowNil (h:Inv w0 X L S w) (e:TypeId) (k:Nat):Inv w0 X (L++[.row (.slice none 0 0) e k 0 []]) S w:=
 h.addItem (Grow.refl w) (it:=.row (.slice none 0 0) e k 0 []) (World.ownsRow_nil w 0 e k) (by simp [Item.foot,Value.ownBlock]) (by simp [Item.foot,Value.ownBlock])

theorem Lt {P:Program} (w:World) (T ty e:TypeId) (i:TypeInfo) (z:Value) (D:P.underlying T=some (.slice e)) (G:P.info? e=some i) (U:i.zero=some z)
  {v v':Value} {n m B:Nat} {xs h:List Value} {a:Addr} {w':World} (p:w.ownsRow 0 e i.size v n xs)
  (C:h.length=m * i.size) (l:∀ j u,h[j]?=some u->w.cell? (a.add j)=some u) (Y:∀ u∈h,u.oneCell'=true) (V:n+m<=4294967296) (o:(n+m) * i.bytes<=140737488355328)
  (J:(Builtin.append_ #[T,T] ty #[v,.slice (some a) m B]).run P w=.ok v' w') (t:v'=.slice none 0 0↔v=.slice none 0 0/\m=0) :
  ∀ c,v'.ownBlock=some c->v.ownBlock=some c ∨ w.heap.size<=c:=by
 intro c hc;rcases p.2 with ⟨rfl,rfl⟩|⟨g,cap,M,rfl,_,Z,a0,a1,N,O⟩
 ·by_cases hm:m=0
  ·rw [t.2 ⟨rfl,hm⟩] at hc;simp [Value.ownBlock] at hc
  ·have q:=run_append_nil (P:=P) (w:=w) T ty e i z D G U a m B h C l (by omega) (by omega) (by simp only [cS] at o; omega);rw [J] at q;simp only [Result.ok.injEq] at q;rw [q.1] at hc;simp only [Value.ownBlock,bj] at hc;right; omega
 ·by_cases r:n+m<=cap
  ·have q:=run_append_room (P:=P) w T ty e i D G g n cap M Z a m B h C l Y r (by rw [C,N,<- hY]; exact fK _ r);rw [J] at q;simp only [Result.ok.injEq] at q;rw [q.1] at hc;left; exact hc
  ·have q:=run_append_grow (P:=P) (w:=w) T ty e i z D G U ⟨g,0,none⟩ n cap xs p.1 (p.cells (g:=g) rfl) a m B h C l (by omega) (by omega) (growslice_fits (by omega) o);rw [J] at q;simp only [Result.ok.injEq] at q;rw [q.1] at hc;simp only [Value.ownBlock,bj] at hc;right; omega

theorem fl (h:Inv w0 X L S w) {T ty e:TypeId} {k r n m Y b o:Nat} {z v:Value} {cs:List Bool} {xs:List Value} (i:Nat) (g:List Value)
  (hT:jX P T=some (e,k,r,z)) (J:0<k) (Z:L[i]?=some (.row v e k n xs)) (hl:g.length=m * k)
  (B:∀ j u,g[j]?=some u->w.cell? ⟨b,o+j,none⟩=some u) (h1:∀ u∈g,u.oneCell'=true) (t:n+m<=4294967296) (M:r<=32768)
  (hk:∀ v' w',Inv w0 X (L.set i (.row v' e k (n+m) (xs++g))) S w'->K v' w') :
  Run P (co .append #[T,T] ty cs [v,.slice (some ⟨b,o,none⟩) m Y]) w K:=by
 obtain ⟨hu,C,D,hz,O,hb,U⟩:=kN hT;have q:=h.its _ (f0 Z);simp only [Item.holds] at q;have l:(n+m) * r<=140737488355328:=il (Kl t M) (by decide);have p:∀ j u,g[j]?=some u->w.cell? ((⟨b,o,none⟩:Addr).add j)=some u:=fun j u hj=>by rw [add_lit]; exact B j u hj
 obtain ⟨v',w',hr,h2,G,h4⟩:=run_append_own (P:=P) w 0 T ty e C z k r hu D hz O hb U J v n xs q ⟨b,o,none⟩ m Y g hl
  p h1 (by simp only [maxLen]; omega) l (aT _)
 have V:=Lt (P:=P) w T ty e C z hu D hz (by rw [O]; exact q) (by rw [O]; exact hl) p h1 t (by rw [hb]; exact l) hr h4;refine Run.of (v:=v') (w':=w') ?_ (hk _ _ ?_)
 ·simp [co,builtin,hr]
 ·refine h.change Z G.size G.os G.tape G.output (fun c hc N=>G.block c hc ?_) (it':=.row v' e k (n+m) (xs++g)) h2 ?_ ?_
  ·intro e';exact N (by simp [Item.foot,<- e'])
  ·intro c hc;simp only [Item.foot,Option.mem_toList] at hc ⊢;exact V c hc
  ·cases v' <;> simp [Item.foot,Value.ownBlock];rename_i a _ _
   cases a <;> simp
end
def Fx (D:Nat->Bool):Nat->List Prop->Prop
 | _,[]=>True
 | k,p::l=>(D k=true->p)/\Fx D (k+1) l
def XO (D:Nat->Bool):Nat->List Prop->Prop
 | _,[]=>True
 | k,_::l=>D k=true/\XO D (k+1) l
def XL:List Prop->Prop
 | []=>True
 | p::l=>p/\XL l
theorem Fx.nil:∀ (k:Nat) (l:List Prop),Fx (fun _=>false) k l
 | _,[]=>trivial
 | k,_::l=>⟨aU,Fx.nil (k+1) l⟩
theorem Fx.low {D:Nat->Bool} {m:Nat}:∀ (k:Nat) (l:List Prop),m<k->Fx D k l->Fx (aF D m) k l
 | _,[],_,_=>trivial
 | k,p::l,hm,h=>⟨fun e=>h.1 (by
   have:Nat.beq k m=false:=by rw [bA]; intro a; have:=Ey a; omega
   simpa [aF,this] using e),Fx.low (k+1) l (by omega) h.2⟩
theorem Fx.setK {D:Nat->Bool} {p:Prop} (a:p):∀ (m k:Nat) (l:List Prop),Fx D k l->Fx (aF D (k+m)) k (l.set m p)
 | _,_,[],_=>trivial
 | 0,k,q::l,h=>⟨fun _=>a,Fx.low (k+1) l (by omega) h.2⟩
 | m+1,k,q::l,h=>⟨fun e=>h.1 (by
   have:Nat.beq k (k+(m+1))=false:=by rw [bA]; intro g; have:=Ey g; omega
   simpa [aF,this] using e),by
   have:=Fx.setK a m (k+1) l h.2
   rwa [show k+1+m=k+(m+1) by omega] at this⟩
theorem Fx.set {D:Nat->Bool} {l:List Prop} (h:Fx D 0 l) (m:Nat) {p:Prop} (a:p):Fx (aF D m) 0 (l.set m p):=by
 have:=Fx.setK a m 0 l h
 rwa [cS] at this
theorem Fx.allK {D:Nat->Bool}:∀ (k:Nat) (l:List Prop),Fx D k l->XO D k l->XL l
 | _,[],_,_=>trivial
 | k,_::l,h,hd=>⟨h.1 hd.1,Fx.allK (k+1) l h.2 hd.2⟩
theorem Fx.all {D:Nat->Bool} {l:List Prop} (h:Fx D 0 l) (a:XO D 0 l:=by repeat (first|exact trivial|refine And.intro (by assumption) ?_)):XL l:=Fx.allK 0 l h a
def Z4 (P:Program) (t:TypeId):Option (List (Nat × TypeId)):=match P.underlying t with
 | some (.struct fs)=>some (fs.toList.map fun f=>(f.offset,f.type))
 | _=>none
end
end Go.Proofs.YtjbcdmheajljpaaGreat
