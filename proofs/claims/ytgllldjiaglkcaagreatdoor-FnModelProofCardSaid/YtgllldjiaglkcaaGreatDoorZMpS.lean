/- A verification condition over the model's code, structural in the code, and its soundness: 'vc' gives 'Code.wp', 'calls_of_vc' gives 'Calls'. It speaks of any program. -/
import Derived.Orders
import Derived.Calls
import Derived.Laws.Sem
import Derived.Below
import Derived.Laws.AppendOwn
import Derived.Laws.Cells
import Derived.Laws.CopyRow
import Derived.Laws.Entries
import Derived.IntWalk
import Derived.Lib.IndexBytes
namespace Go.Proofs.YtgllldjiaglkcaaGreatDoor
section
open Go
abbrev YW:=@Array.getElem?_eq_some_iff
abbrev Zf:=@Array.getElem?_setIfInBounds_ne
abbrev ZU:=@Array.getElem?_toList
abbrev Og:=@Array.length_toList
abbrev aak:=@Array.toList_eraseIdxIfInBounds
abbrev F4:=@Array.toList_inj
abbrev VV:=@Array.toList_push
abbrev aaa:=@Array.toList_setIfInBounds
abbrev Ec:=@Bool.and_assoc
abbrev bu:=@Bool.and_eq_true
abbrev kY:=@Bool.and_false
abbrev TI:=@Bool.and_true
abbrev bB:=@Bool.eq_false_iff
abbrev mf:=@Bool.eq_iff_iff
abbrev iG:=@Bool.false_and
abbrev JS:=@Bool.false_eq_true
abbrev fV:=@Bool.false_or
abbrev rK:=@Bool.not_eq_false'
abbrev Tq:=@Bool.not_eq_true
abbrev jj:=@Bool.not_eq_true'
abbrev KU:=@Bool.or_eq_false_iff
abbrev jR:=@Bool.or_eq_true
abbrev Tx:=@Bool.or_true
abbrev dg:=@Bool.true_and
abbrev s6:=@Bool.true_or
abbrev Af:=@Int.le_refl
abbrev dv:=@Int.toNat_natCast
abbrev Tm:=@Int.toNat_of_nonneg
abbrev DZ:=@List.Perm.append_left
abbrev TQ:=@List.all_cons
abbrev W6:=@List.all_eq_false
abbrev dE:=@List.all_eq_true
abbrev fR:=@List.any_cons
abbrev Gw:=@List.any_eq_true
abbrev eK:=@List.append_assoc
abbrev V0:=@List.append_inj'
abbrev dh:=@List.append_nil
abbrev lE:=@List.cons.injEq
abbrev iR:=@List.cons_append
abbrev Uc:=@List.dropLast_concat_getLast
abbrev Tn:=@List.drop_drop
abbrev cU:=@List.drop_eq_getElem_cons
abbrev jT:=@List.drop_eq_nil_of_le
abbrev Us:=@List.drop_left
abbrev dO:=@List.drop_length
abbrev N3:=@List.drop_take
abbrev Lb:=@List.drop_zero
abbrev gO:=@List.eq_nil_of_length_eq_zero
abbrev XT:=@List.eq_nil_or_concat
abbrev KN:=@List.eq_of_mem_replicate
abbrev Xm:=@List.eraseIdx_eq_take_drop_succ
abbrev wD:=@List.ext_getElem?
abbrev WD:=@List.filter_congr
abbrev uO:=@List.filter_cons
abbrev TF:=@List.filter_eq_nil_iff
abbrev T2:=@List.filter_filter
abbrev rt:=@List.flatMap_cons
abbrev vD:=@List.flatten_append
abbrev iT:=@List.flatten_cons
abbrev ur:=@List.flatten_nil
abbrev Ul:=@List.foldl_append
abbrev oc:=@List.foldl_cons
abbrev TY:=@List.foldl_nil
abbrev Tt:=@List.getD_eq_getElem?_getD
abbrev z0:=@List.getElem?_append_left
abbrev iu:=@List.getElem?_append_right
abbrev mB:=@List.getElem?_cons_succ
abbrev F2:=@List.getElem?_cons_zero
abbrev AD:=@List.getElem?_drop
abbrev gL:=@List.getElem?_eq_getElem
abbrev Uh:=@List.getElem?_eq_none
abbrev gx:=@List.getElem?_eq_some_iff
abbrev XU:=@List.getElem?_replicate
abbrev C5:=@List.getElem?_set
abbrev CT:=@List.getElem?_set_ne
abbrev Tu:=@List.getElem?_set_self
abbrev r4:=@List.getElem?_take
abbrev gJ:=@List.getElem_append_left
abbrev gd:=@List.getElem_append_right
abbrev Lq:=@List.getElem_cons_succ
abbrev lG:=@List.getElem_cons_zero
abbrev WP:=@List.getElem_drop
abbrev H6:=@List.getElem_map
abbrev bz:=@List.getElem_mem
abbrev zo:=@List.getElem_of_mem
abbrev T0:=@List.getElem_set_ne
abbrev Qp:=@List.getElem_set_self
abbrev Fu:=@List.getElem_take
abbrev bA:=@List.length_append
abbrev bw:=@List.length_cons
abbrev vB:=@List.length_drop
abbrev W3:=@List.length_filter_le
abbrev kR:=@List.length_map
abbrev bU:=@List.length_nil
abbrev nZ:=@List.length_set
abbrev n4:=@List.length_singleton
abbrev dX:=@List.length_take
abbrev TW:=@List.length_zip
abbrev Ue:=@List.map_append
abbrev AE:=@List.map_cons
abbrev bO:=@List.mem_append
abbrev dy:=@List.mem_append_left
abbrev iA:=@List.mem_append_right
abbrev bN:=@List.mem_cons
abbrev aV:=@List.mem_cons_of_mem
abbrev aS:=@List.mem_cons_self
abbrev BT:=@List.mem_flatMap
abbrev Rt:=@List.mem_flatten
abbrev BW:=@List.mem_iff_getElem
abbrev eU:=@List.mem_map
abbrev cz:=@List.mem_of_getElem?
abbrev wR:=@List.mem_of_mem_drop
abbrev sD:=@List.mem_of_mem_take
abbrev sC:=@List.mem_or_eq_of_mem_set
abbrev cd:=@List.mem_singleton
abbrev rg:=@List.nil_append
abbrev MI:=@List.nil_sublist
abbrev rc:=@List.nodup_append
abbrev Be:=@List.nodup_cons
abbrev Ly:=@List.nodup_nil
abbrev jd:=@List.not_mem_nil
abbrev QJ:=@List.pairwise_append
abbrev RQ:=@List.pairwise_cons
abbrev Wj:=@List.pairwise_iff_forall_sublist
abbrev cu:=@List.perm_append_comm
abbrev zal125:=@List.perm_middle
abbrev WH:=@List.replicate_append_replicate
abbrev Ta:=@List.set_append_left
abbrev Nb:=@List.set_cons_succ
abbrev GW:=@List.set_eq_take_append_cons_drop
abbrev Tj:=@List.size_toArray
abbrev dB:=@List.sublist_append_left
abbrev ei:=@List.sublist_append_right
abbrev iz:=@List.sublist_cons_self
abbrev xd:=@List.take_append_drop
abbrev QU:=@List.take_append_of_le_length
abbrev FB:=@List.take_left
abbrev FQ:=@List.take_left'
abbrev fJ:=@List.take_length
abbrev MU:=@List.take_of_length_le
abbrev tO:=@List.take_succ_cons
abbrev fl:=@List.take_succ_eq_append_getElem
abbrev oX:=@List.take_take
abbrev M0:=@List.take_zero
abbrev MT:=@Nat.add_assoc
abbrev qK:=@Nat.add_comm
abbrev tJ:=@Nat.add_mul
abbrev xw:=@Nat.add_right_cancel_iff
abbrev oV:=@Nat.add_sub_cancel_left
abbrev wV:=@Nat.add_zero
abbrev Ni:=@Nat.eq_of_beq_eq_true
abbrev wN:=@Nat.le_add_right
abbrev jw:=@Nat.le_of_ble_eq_true
abbrev M8:=@Nat.le_of_eq
abbrev aW:=@Nat.le_refl
abbrev SZ:=@Nat.le_succ_of_le
abbrev gX:=@Nat.le_trans
abbrev MC:=@Nat.lt_or_ge
abbrev Re:=@Nat.lt_succ_self
abbrev lm:=@Nat.min_eq_left
abbrev un:=@Nat.mod_lt
abbrev Ca:=@Nat.mul_le_mul
abbrev ja:=@Nat.mul_le_mul_right
abbrev Ii:=@Nat.mul_succ
abbrev NB:=@Nat.pow_le_pow_right
abbrev eB:=@Nat.sub_self
abbrev lw:=@Nat.succ_mul
abbrev cq:=@Nat.zero_add
abbrev be:=@Nat.zero_le
abbrev Cf:=@Nat.zero_mul
abbrev QL:=@Option.map_eq_some_iff
abbrev sw:=@Option.map_some
abbrev Hj:=@Option.some.inj
abbrev bg:=@Option.some.injEq
abbrev cT:=@Prod.mk.injEq
abbrev mC:=@and_true
abbrev SF:=@beq_self_eq_true
abbrev fg:=@decide_eq_decide
abbrev aP:=@decide_eq_false
abbrev jC:=@decide_eq_false_iff_not
abbrev aI:=@decide_eq_true
abbrev bk:=@decide_eq_true_eq
abbrev ah:=@if_neg
abbrev ai:=@if_pos
abbrev je:=@or_false
abbrev xO:=@true_and
theorem aQ {P:Prop} (h:false=true):P:=Bool.noConfusion h

abbrev Env:=Nat->Value
def upd (ρ:Env) (d:Nat) (v:Value):Env:=fun t=>match Nat.beq t d with
 | true=>v
 | false=>ρ t
def vy (ρ:Env) (dst:Option Nat) (v:Value):Env:=match dst with
 | some d=>upd ρ d v
 | none=>ρ
def evE (ρ:Env):Operand->Value
 | .tmp t=>ρ t
 | .const v=>v
 | .global g=>.pointer (some ⟨g,0,none⟩)
 | .func f=>.func (.func f) #[] #[]

def Run (P:Program) (s:Sem Next) (w:World) (K:Value->World->Prop):Prop:=
 match s.run P w with
 | .ok (.value v) w'=>K v w'
 | .ok .skip w'=>K undef w'
 | .ok (.enter f args) w'=>Calls P f args w' fun
   | .returned v,w''=>K v w''
   | _,_=>False
 | _=>False

def ev0:Operand->Value:=evE fun _=>undef
def sOp (op:Op) (ty:TypeId):Sem Next:=execOp ev0 ⟨none,op,ty,"",#[],none⟩
def cK (op:BinOp) (T:TypeId) (cx cy:Bool) (x y:Value):Sem Next:=do
 eqGuard op T (bif cx then .const x else .tmp 0) (bif cy then .const y else .tmp 0) x y
 pure (.value (<- binOp op T x y))
def cB (T:TypeId) (ps:List (Nat × Value)):Sem Next:=do pure (.value (<- Instr.build T ps.toArray))
def bC (T:TypeId) (n:Nat) (ps:List (Nat × Value)):Sem Next:=do pure (.value (<- Instr.buildSlice T n ps.toArray))
def eY (fn:Fn) (first captured:List Value):Sem Next:=do pure (.value (<- Instr.makeFunc fn first.toArray captured.toArray))
def eM (f:Value) (args:List Value):Sem Next:=do
 let d <- Deferred.ofValue f args.toArray
 invoke d.target d.args
def bM (b:Builtin) (ts:Array TypeId) (ty:TypeId) (cs:List Bool) (args:List Value):Sem Next:=
 builtin b ts ty cs.toArray args.toArray
def isC:Operand->Bool
 | .const _=>true
 | _=>false
def cl (ρ:Env) (x:Operand):Operand:=.const (evE ρ x)
def aaR (ρ:Env):Op->Op
 | .pick c a b=>.pick (cl ρ c) (cl ρ a) (cl ρ b)
 | .alloc e=>.alloc e
 | .box e v=>.box e (cl ρ v)
 | .load t a=>.load t (cl ρ a)
 | .store t a v=>.store t (cl ρ a) (cl ρ v)
 | .nilCheck x=>.nilCheck (cl ρ x)
 | .unOp o t x=>.unOp o t (cl ρ x)
 | .convert s d x=>.convert s d (cl ρ x)
 | .makeInterface t x=>.makeInterface t (cl ρ x)
 | .makeMap t r=>.makeMap t (r.map (cl ρ))
 | .makeSlice t l c=>.makeSlice t (cl ρ l) (cl ρ c)
 | .slice t x l h m=>.slice t (cl ρ x) (l.map (cl ρ)) (h.map (cl ρ)) (m.map (cl ρ))
 | .fieldAddr t x f=>.fieldAddr t (cl ρ x) f
 | .field t x f=>.field t (cl ρ x) f
 | .indexAddr t x i=>.indexAddr t (cl ρ x) (cl ρ i)
 | .index t x i=>.index t (cl ρ x) (cl ρ i)
 | .lookup t x i ok=>.lookup t (cl ρ x) (cl ρ i) ok
 | .mapUpdate t m k v=>.mapUpdate t (cl ρ m) (cl ρ k) (cl ρ v)
 | .range t x=>.range t (cl ρ x)
 | .next x b=>.next (cl ρ x) b
 | .extract t i=>.extract (cl ρ t) i
 | .typeAssert x t a ok=>.typeAssert (cl ρ x) t a ok
 | op=>op
def Z0:Op->Bool
 | .pick ..|.alloc ..|.box ..|.load ..|.store ..|.nilCheck ..|.unOp ..|.convert ..|.makeInterface ..|.makeMap ..|.makeSlice ..|.slice ..
 | .fieldAddr ..|.field ..|.indexAddr ..|.index ..|.lookup ..|.mapUpdate ..|.range ..|.next ..|.extract ..|.typeAssert ..=>true
 | _=>false
def N6 (ρ:Env) (o:Oper):Sem Next:=match o.op with
 | .binOp op T x y _=>cK op T (isC x) (isC y) (evE ρ x) (evE ρ y)
 | .build t ps=>cB t (ps.toList.map fun p=>(p.1,evE ρ p.2))
 | .buildSlice t n ps=>bC t n (ps.toList.map fun p=>(p.1,evE ρ p.2))
 | .makeFunc fn a b=>eY fn (a.toList.map (evE ρ)) (b.toList.map (evE ρ))
 | .call c=>match c.callee with
  | .value f=>eM (evE ρ f) (c.args.toList.map (evE ρ))
  | .builtin b=>bM b c.argTypes o.type (c.args.toList.map isC) (c.args.toList.map (evE ρ))
  | .invoke ..=>execOp (evE ρ) o
 | op=>match Z0 op with
  | true=>sOp (aaR ρ op) o.type
  | false=>execOp (evE ρ) o

def stepE (P:Program) (o:Oper) (ρ:Env) (w:World) (K:Value->World->Prop):Prop:=match o.op with
 | .move x|.assign x=>K (evE ρ x) w
 | _=>Run P (N6 ρ o) w K

def az (v:Value) (b:Bool) (A B:Prop):Prop:=match v with
 | .bool c=>if c=b then A else B
 | _=>B
def GuardO (ops:List Oper) (ρ:Env) (g:Option (Nat × Bool)) (A B:Prop):Prop:=match g with
 | none=>A
 | some (j,b)=>match (ops[j]?).bind (·.dst) with
  | some d=>az (ρ d) b A B
  | none=>B

def opE (P:Program) (ops:List Oper) (o:Oper) (ρ:Env) (w:World) (K:Env->World->Prop):Prop:=
 GuardO ops ρ o.guard (stepE P o ρ w fun v w'=>K (vy ρ o.dst v) w') (K (vy ρ o.dst undef) w)

def jW (g h:Option (Nat × Bool)):Bool:=match g,h with
 | some (i,a),some (j,b)=>Nat.beq i j && (a == b)
 | none,none=>true
 | _,_=>false
def grp (g:Option (Nat × Bool)):List Oper->List Oper
 | []=>[]
 | o::os=>match jW g o.guard with
  | true=>o::grp g os
  | false=>[]
def nM (g:Option (Nat × Bool)):List Oper->List Oper
 | []=>[]
 | o::os=>match jW g o.guard with
  | true=>nM g os
  | false=>o::os
def VD (P:Program):List Oper->Env->World->(Env->World->Prop)->Prop
 | [],ρ,w,K=>K ρ w
 | o::os,ρ,w,K=>stepE P o ρ w fun v w'=>VD P os (vy ρ o.dst v) w' K
def N2:List Oper->Env->Env
 | [],ρ=>ρ
 | o::os,ρ=>N2 os (vy ρ o.dst undef)
def Ds (P:Program) (all:List Oper) (n:Nat):List Oper->Env->World->(Env->World->Prop)->Prop:=
 Nat.rec (fun _ _ _ _=>False) (fun _ ih l ρ w K=>match l with
  | []=>K ρ w
  | o::os=>match o.guard with
   | none=>stepE P o ρ w fun v w'=>ih os (vy ρ o.dst v) w' K
   | some g=>GuardO all ρ (some g)
     (VD P (o::grp (some g) os) ρ w fun ρ' w'=>ih (nM (some g) os) ρ' w' K)
     (ih (nM (some g) os) (N2 (o::grp (some g) os) ρ) w K)) n

def aD (D:Nat->Bool) (i:Nat):Nat->Bool:=fun j=>bif Nat.beq j i then true else D j
def ww:List Edge->(Nat->Bool)->Prop->Prop
 | [],_,p=>p
 | e::es,D,p=>match Region.binds .any e with
  | true=>D e.on=true->ww es D p
  | false=>ww es D p
def yd:Nat->(Nat->Bool)->Prop->Prop
 | 0,_,p=>p
 | n+1,D,p=>D n=true->yd n D p
def Cur (α:Type):List Nat->Type
 | []=>α
 | _::l=>Value->Cur α l
def ap {α:Type}:(l:List Nat)->Cur α l->Env->α
 | [],f,_=>f
 | m::l,f,ρ=>ap l (f (ρ m)) ρ
def l5:List Nat->Env->(Env->Prop)->Prop
 | [],ρ,p=>p ρ
 | m::l,ρ,p=>∀ x:Value,l5 l (upd ρ m x) p

def qg:List Oper->List Nat->List Nat
 | [],l=>l
 | o::os,l=>match o.dst with
  | some d=>match l.elem d with
   | true=>qg os l
   | false=>qg os (d::l)
  | none=>qg os l
def BV (P:Program) (all:List Oper) (M:List Nat) (A:(Nat->Bool)->Cur (World->Prop) M) (ρ:Env):Nat->List Oper->Prop
 | _,[]=>True
 | i,o::os=>(∀ D,D i=false->ww o.after.toList D (l5 M ρ fun ρ'=>∀ w',ap M (A D) ρ' w'->
   opE P all o ρ' w' fun ρ'' w''=>ap M (A (aD D i)) ρ'' w''))/\BV P all M A ρ (i+1) os
def SC (P:Program) (ops:List Oper) (ρ:Env) (w:World) (K:Env->World->Prop):Prop:=
 ∃ A:(Nat->Bool)->Cur (World->Prop) (qg ops []),ap (qg ops []) (A fun _=>false) ρ { w with drawn:=w.drawn+1 }/\
  BV P ops (qg ops []) A ρ 0 ops/\
  ∀ D,yd ops.length D (l5 (qg ops []) ρ fun ρ'=>∀ w',ap (qg ops []) (A D) ρ' w'->K ρ' w')

inductive An where
 | leaf
 | seq (cut:Option (List Nat)) (l r:An)
 | two (l r:An)
 | one (l:An)
 | loop (live:List Nat) (l:An)
def An.cut:An->Option (List Nat)
 | .seq c _ _=>c
 | _=>none
def An.l:An->An
 | .seq _ a _|.two a _|.one a|.loop _ a=>a
 | .leaf=>.leaf
def An.r:An->An
 | .seq _ _ b|.two _ b=>b
 | _=>.leaf
def An.live:An->List Nat
 | .loop l _=>l
 | _=>[]

def wr:Code->List Nat->List Nat
 | .region _ ops _,l=>qg ops.toList l
 | .seq a b,l=>wr b (wr a l)
 | .cond _ a b,l=>wr b (wr a l)
 | .block _ a,l|.loop a,l|.scope a,l=>wr a l
 | _,l=>l

abbrev CO (K:Env->World->Prop) (Q:Exit->Env->World->Prop):Exit->Env->World->Prop
 | .normal,ρ,w=>K ρ w
 | e,ρ,w=>Q e ρ w
abbrev RA (id:Nat) (Q:Exit->Env->World->Prop):Exit->Env->World->Prop
 | .exit id',ρ,w=>match Nat.beq id' id with
  | true=>Q .normal ρ w
  | false=>Q (.exit id') ρ w
 | e,ρ,w=>Q e ρ w

def CondV (v:Value) (A B:Prop):Prop:=match v with
 | .bool c=>if c=true then A else B
 | _=>False

def vc (P:Program):Code->An->(Exit->Env->World->Prop)->Env->World->Prop
 | .skip,_,Q,ρ,w=>Q .normal ρ w
 | .ret,_,Q,ρ,w=>Q .ret ρ w
 | .exit id,_,Q,ρ,w=>Q (.exit id) ρ w
 | .region _ ops draw,_,Q,ρ,w=>
  match draw with
  | true=>SC P ops.toList ρ w (Q .normal)
  | false=>Ds P ops.toList (ops.toList.length+1) ops.toList ρ w (Q .normal)
 | .seq a b,an,Q,ρ,w=>match an.cut with
  | none=>vc P a an.l (CO (vc P b an.r Q) Q) ρ w
  | some lv=>∃ J:Cur (World->Prop) lv,vc P a an.l (CO (ap lv J) Q) ρ w/\
    l5 (wr a []) ρ fun ρ'=>∀ w',ap lv J ρ' w'->vc P b an.r Q ρ' w'
 | .cond c a b,an,Q,ρ,w=>CondV (evE ρ c) (vc P a an.l Q ρ w) (vc P b an.r Q ρ w)
 | .block id a,an,Q,ρ,w=>vc P a an.l (RA id Q) ρ w
 | .loop a,an,Q,ρ,w=>∃ (I:Cur (World->Prop) an.live) (μ:Cur (World->Nat) an.live),ap an.live I ρ w/\
   l5 (wr a []) ρ fun ρ'=>∀ w',ap an.live I ρ' w'->
    vc P a an.l (CO (fun ρ'' w''=>ap an.live I ρ'' w''/\ap an.live μ ρ'' w''<ap an.live μ ρ' w') Q) ρ' w'
 | _,_,_,_,_=>False
end
section
open Go

def VJ (n:Nat):Operand->Bool
 | .tmp t=>Nat.blt t n
 | _=>true
def T4:Op->Bool
 | .select _ _=>false
 | _=>true
def MA (n:Nat):Option Nat->Bool
 | some d=>Nat.blt d n
 | none=>true
def kz (j d:Nat):Nat->List Oper->Bool
 | _,[]=>true
 | i,o::os=>(Nat.beq i j || !(o.dst == some d)) && kz j d (i+1) os
def pW (n:Nat) (all:List Oper):Option (Nat × Bool)->Bool
 | none=>true
 | some (j,_)=>match (all[j]?).bind (·.dst) with
  | some d=>Nat.blt d n && kz j d 0 all
  | none=>false
def n6 (n:Nat) (all:List Oper) (o:Oper):Bool:=
 T4 o.op && MA n o.dst && o.op.operands.toList.all (VJ n) && pW n all o.guard
def Uz (i:Nat):List Edge->Bool
 | []=>true
 | e::es=>(!Region.binds .any e || Nat.blt e.on i) && Uz i es
def Fw:Nat->List Oper->Bool
 | _,[]=>true
 | i,o::os=>Uz i o.after.toList && Fw (i+1) os
def kK:Nat->List Oper->Bool
 | _,[]=>true
 | i,o::os=>(match o.guard with|none=>true|some (j,_)=>Nat.blt j i) && kK (i+1) os
def BH (n:Nat):Code->Bool
 | .skip|.ret|.exit _=>true
 | .region _ ops draw=>ops.toList.all (n6 n ops.toList) && kK 0 ops.toList && (!draw || Fw 0 ops.toList)
 | .seq a b=>BH n a && BH n b
 | .cond c a b=>VJ n c && BH n a && BH n b
 | .block _ a|.loop a=>BH n a
 | _=>false

structure Rel (n:Nat) (ρ:Env) (a:Act):Prop where
 size:a.tmps.size=n
 at_:∀ t,t<n->a.tmps[t]?=some (ρ t)
 out:∀ t,n<=t->ρ t=undef
 defers:a.defers=[]

theorem Rel.eval {n:Nat} {ρ:Env} {a:Act} (h:Rel n ρ a) {x:Operand} (hx:VJ n x=true):a.eval x=evE ρ x:=by
 cases x with
 | tmp t=>
  have ht:t<n:=by simpa [VJ,Nat.blt_eq] using hx
  simp [Act.eval,evE,Array.getD_eq_getD_getElem?,h.at_ t ht]
 | _=>rfl

theorem FW (ρ:Env) (d:Nat) (v:Value):upd ρ d v d=v:=by simp [upd]
theorem sM (ρ:Env) {d t:Nat} (v:Value) (h:t≠d):upd ρ d v t=ρ t:=by
 have:Nat.beq t d=false:=by simpa [<- Bool.not_eq_true] using h
 simp [upd,this]

theorem Rel.put {n:Nat} {ρ:Env} {a:Act} (h:Rel n ρ a) {dst:Option Nat} (hd:MA n dst=true) (v:Value) :
  Rel n (vy ρ dst v) (a.put dst v):=by
 cases dst with
 | none=>exact h
 | some d=>
  have hdn:d<n:=by simpa [MA,Nat.blt_eq] using hd
  refine ⟨by simp [Act.put,h.size],fun t ht=>?_,fun t ht=>by rw [vy,sM ρ v (by omega)]; exact h.out t ht,h.defers⟩
  by_cases e:t=d
  ·subst e
   simp [Act.put,vy,FW,h.size,ht]
  ·simp only [Act.put,vy,sM ρ v e]
   rw [Zf (by omega)]
   exact h.at_ t ht

theorem QN {n:Nat} {ρ:Env} {a:Act} (h:Rel n ρ a) {o:Oper} (hs:T4 o.op=true)
  (ho:o.op.operands.toList.all (VJ n)=true):execOp a.eval o=execOp (evE ρ) o:=by
 refine execOp_congr o ?_ ?_
 ·intro cs b e; rw [e] at hs; simp [T4] at hs
 ·intro x hx
  exact h.eval (dE.1 ho x (Array.mem_toList_iff.2 hx))

theorem Tz (ρ:Env) (o:Oper):execOp (evE ρ) o=N6 ρ o:=by
 obtain ⟨dst,op,type,pos,after,guard⟩:=o
 cases op <;> try rfl
 case binOp op T x y u=>
  have hm:∀ (x:Operand),(match (bif isC x then Operand.const (evE ρ x) else .tmp 0) with|.const _=>true|_=>false)=(match x with|.const _=>true|_=>false):=by
   intro x; cases x <;> rfl
  simp only [execOp,N6,cK]
  have hg:eqGuard op T x y (evE ρ x) (evE ρ y)=eqGuard op T (bif isC x then Operand.const (evE ρ x) else .tmp 0) (bif isC y then Operand.const (evE ρ y) else .tmp 0) (evE ρ x) (evE ρ y):=by
   cases x <;> cases y <;> rfl
  rw [hg]
  exact bind_assoc _ _ _
 case build t ps=>
  simp only [execOp,N6,cB]
  congr 2
  exact (F4.1 (by simp))
 case buildSlice t n ps=>
  simp only [execOp,N6,bC]
  congr 2
  exact (F4.1 (by simp))
 case makeFunc fn a b=>
  simp only [execOp,N6,eY]
  congr 2
  ·exact (F4.1 (by simp))
  ·exact (F4.1 (by simp))
 case makeMap t r=>cases r <;> rfl
 case slice t x l h m=>cases l <;> cases h <;> cases m <;> rfl
 case call c=>
  obtain ⟨callee,args,argTypes⟩:=c
  have ha:args.map (evE ρ)=(args.toList.map (evE ρ)).toArray:=F4.1 (by simp)
  cases callee with
  | value f=>
   simp only [execOp,N6,eM,resolve,ha]
  | builtin b=>
   have hb:(args.map fun (x:Operand)=>(match x with|.const _=>true|_=>false))=(args.toList.map isC).toArray:=F4.1 (by
    simp only [Array.toList_map]
    congr 1)
   simp only [execOp,N6,bM,resolve,ha]
   rw [<- hb]
   rfl
  | invoke r m=>rfl

theorem stepE.run {P:Program} {o:Oper} {ρ:Env} {w:World} {K:Value->World->Prop} (h:stepE P o ρ w K):Run P (execOp (evE ρ) o) w K:=by
 rw [Tz]
 obtain ⟨dst,op,type,pos,after,guard⟩:=o
 cases op <;> exact h
theorem Run.step {P:Program} {o:Oper} {ρ:Env} {w:World} {K:Value->World->Prop} (h:Run P (execOp (evE ρ) o) w K):stepE P o ρ w K:=by
 rw [Tz] at h
 obtain ⟨dst,op,type,pos,after,guard⟩:=o
 cases op <;> exact h
theorem Run.mono {P:Program} {s:Sem Next} {w:World} {K K':Value->World->Prop} (h:Run P s w K) (hk:∀ v w,K v w->K' v w) :
  Run P s w K':=by
 unfold Run at *
 split at h
 ·exact hk _ _ h
 ·exact hk _ _ h
 ·exact Calls.mono h fun e w' he=>by cases e <;> first|exact hk _ _ he|exact he
 ·exact h.elim

theorem stepE.mono {P:Program} {o:Oper} {ρ:Env} {w:World} {K K':Value->World->Prop} (h:stepE P o ρ w K) (hk:∀ v w,K v w->K' v w) :
  stepE P o ρ w K':=Run.step (Run.mono h.run hk)

theorem Run.wp {P:Program} {n:Nat} {ρ:Env} {a:Act} {w:World} {o:Oper} {K:Value->World->Prop} {next:Act->World->Prop}
  {Q:Exit->Act->World->Prop} (hr:Rel n ρ a) (hs:T4 o.op=true) (ho:o.op.operands.toList.all (VJ n)=true)
  (h:Run P (execOp (evE ρ) o) w K) (hk:∀ v w',K v w'->next (a.put o.dst v) w'):o.wp P a w next Q:=by
 unfold Oper.wp
 rw [QN hr hs ho]
 unfold Run at h
 split at h
 ·rename_i e; rw [e]; exact hk _ _ h
 ·rename_i e; rw [e]; exact hk _ _ h
 ·rename_i e; rw [e]
  exact Calls.mono h fun e w' he=>by cases e <;> first|exact hk _ _ he|exact he.elim
 ·exact h.elim

theorem Aa {n:Nat} {ρ:Env} {a:Act} (hr:Rel n ρ a) {ops:Array Oper} {o:Oper} {A B:Prop}
  (hg:pW n ops.toList o.guard=true) (h:GuardO ops.toList ρ o.guard A B) :
  (Region.wanted o (yielded ops a.tmps)=true/\A) ∨ (Region.wanted o (yielded ops a.tmps)=false/\B):=by
 unfold Region.wanted
 cases hgd:o.guard with
 | none=>rw [hgd] at h; exact .inl ⟨rfl,h⟩
 | some g=>
  obtain ⟨j,b⟩:=g
  rw [hgd] at h hg
  simp only [GuardO,pW,yielded,ZU] at *
  cases hd:(ops[j]?).bind (·.dst) with
  | none=>rw [hd] at hg; simp at hg
  | some d=>
   rw [hd] at h hg
   simp only [bu,Nat.blt_eq] at hg
   simp only [Option.bind_some,hr.at_ d hg.1]
   simp only [az] at h
   split at h
   ·rename_i c hc
    rw [hc]
    split at h
    ·rename_i e; subst e; exact .inl ⟨by simp,h⟩
    ·rename_i e; exact .inr ⟨by simpa using e,h⟩
   ·rename_i hv
    refine .inr ⟨?_,h⟩
    cases hc:ρ d <;> first|exact absurd hc (hv _)|simp

theorem AX {P:Program} {n:Nat} {ops:Array Oper} {o:Oper} {ρ:Env} {a:Act} {w:World} {K:Env->World->Prop}
  {next:Act->World->Prop} {Q:Exit->Act->World->Prop} {i:Nat} (hi:ops[i]?=some o) (hr:Rel n ρ a) (hf:n6 n ops.toList o=true)
  (h:opE P ops.toList o ρ w K) (hk:∀ v w',K (vy ρ o.dst v) w'->next (a.put o.dst v) w') :
  wpOp P ops Q i next a w:=by
 simp only [n6,bu] at hf
 obtain ⟨⟨⟨h1,h2⟩,h3⟩,h4⟩:=hf
 unfold wpOp
 rw [hi]
 simp only []
 rcases Aa hr h4 h with ⟨hw,hA⟩|⟨hw,hB⟩
 ·rw [ai hw]; exact .inl (hA.run.wp hr h1 h3 hk)
 ·rw [ah (by simp [hw])]; exact hk _ _ hB

theorem uF (i m:Nat):List.range' i (m+1)=i::List.range' (i+1) m:=rfl

theorem ni {j d:Nat}:∀ (l:List Oper) (k:Nat),kz j d k l=true->∀ i o,l[i]?=some o->k+i≠j->o.dst≠some d
 | [],_,_,i,o,hi,_=>by simp at hi
 | x::xs,k,h,i,o,hi,hne=>by
  simp only [kz,bu,jR,Nat.beq_eq,jj,beq_eq_false_iff_ne] at h
  cases i with
  | zero=>
   simp only [F2,bg] at hi
   subst hi
   rcases h.1 with e|e
   ·exact absurd (by simpa using e) (by omega)
   ·exact e
  | succ i=>
   rw [mB] at hi
   exact ni xs (k+1) h.2 i o hi (by omega)

theorem JA {g h:Option (Nat × Bool)}:jW g h=true↔g=h:=by
 cases g <;> cases h <;> simp [jW,Prod.ext_iff]

theorem BL (g:Option (Nat × Bool)):∀ l:List Oper,l=grp g l++nM g l
 | []=>rfl
 | o::os=>by
  simp only [grp,nM]
  cases h:jW g o.guard <;> simp
  exact BL g os
theorem Un (g:Option (Nat × Bool)):∀ (l:List Oper) (o:Oper),o∈grp g l->o.guard=g
 | [],_,h=>by simp [grp] at h
 | x::xs,o,h=>by
  simp only [grp] at h
  cases e:jW g x.guard with
  | false=>rw [e] at h; simp at h
  | true=>
   rw [e] at h
   rcases bN.1 h with rfl|h
   ·exact (JA.1 e).symm
   ·exact Un g xs o h
theorem zK (g:Option (Nat × Bool)):∀ l:List Oper,(nM g l).length<=l.length
 | []=>by simp [nM]
 | x::xs=>by
  simp only [nM]
  cases jW g x.guard
  ·simp
  ·simpa using SZ (zK g xs)

section ops
variable {P:Program} {n:Nat} {ops:Array Oper} {Q:Exit->Act->World->Prop}
def FH (n:Nat) (ops:Array Oper):Prop:=∀ o∈ops.toList,n6 n ops.toList o=true

theorem GC (hf:FH n ops) {j d:Nat} {b:Bool} (hj:(ops.toList[j]?).bind (·.dst)=some d) :
  ∀ (l:List Oper) (i:Nat) (ρ:Env) (a:Act) (w:World) (K:Env->World->Prop) (rest:List Nat),
   (∀ k o,l[k]?=some o->ops.toList[i+k]?=some o/\o.guard=some (j,b))->j<i->ρ d=.bool b->Rel n ρ a->VD P l ρ w K->
   (∀ ρ' a' w',Rel n ρ' a'->K ρ' w'->wpOps P ops Q rest a' w')->wpOps P ops Q (List.range' i l.length++rest) a w
 | [],i,ρ,a,w,K,rest,_,_,_,hr,h,hk=>hk _ _ _ hr h
 | o::os,i,ρ,a,w,K,rest,hl,hji,hd,hr,h,hk=>by
  obtain ⟨h0,hg⟩:=hl 0 o rfl
  rw [wV] at h0
  have hm:o∈ops.toList:=cz h0
  have hfo:=hf o hm
  have h0':ops[i]?=some o:=by simpa using h0
  have hfo':=hfo
  simp only [n6,bu] at hfo'
  obtain ⟨⟨⟨h1,h2⟩,h3⟩,h4⟩:=hfo'
  have hsw:kz j d 0 ops.toList=true:=by
   rw [hg] at h4; simp only [pW,hj,bu] at h4; exact h4.2
  have hne:o.dst≠some d:=ni _ 0 hsw i o h0 (by omega)
  rw [bw,uF,iR,wpOps_cons]
  refine AX (ρ:=ρ) (w:=w) (K:=fun ρ' w'=>(ρ' d=.bool b)/\VD P os ρ' w' K) h0' hr hfo ?_ ?_
  ·unfold opE
   rw [hg]
   simp only [GuardO,hj,az,hd,if_true]
   refine stepE.mono h fun v w' hh=>⟨?_,hh⟩
   cases hdst:o.dst with
   | none=>exact hd
   | some e=>rw [vy,sM]; exact hd; intro ee; exact hne (by rw [hdst,ee])
  ·intro v w' hh
   exact GC hf hj os (i+1) _ _ w' K rest (fun k o' hk'=>by
    have:=hl (k+1) o' (by simpa using hk')
    rw [show i+1+k=i+(k+1) by omega]; exact this) (by omega) hh.1 (hr.put h2 v) hh.2 hk

theorem DA (hf:FH n ops) {j d:Nat} {b:Bool} (hj:(ops.toList[j]?).bind (·.dst)=some d) :
  ∀ (l:List Oper) (i:Nat) (ρ:Env) (a:Act) (w:World) (rest:List Nat),
   (∀ k o,l[k]?=some o->ops.toList[i+k]?=some o/\o.guard=some (j,b))->j<i->ρ d≠.bool b->Rel n ρ a->
   (∀ a',Rel n (N2 l ρ) a'->wpOps P ops Q rest a' w)->wpOps P ops Q (List.range' i l.length++rest) a w
 | [],i,ρ,a,w,rest,_,_,_,hr,hk=>hk _ hr
 | o::os,i,ρ,a,w,rest,hl,hji,hd,hr,hk=>by
  obtain ⟨h0,hg⟩:=hl 0 o rfl
  rw [wV] at h0
  have hm:o∈ops.toList:=cz h0
  have hfo:=hf o hm
  have h0':ops[i]?=some o:=by simpa using h0
  have hfo':=hfo
  simp only [n6,bu] at hfo'
  obtain ⟨⟨⟨h1,h2⟩,h3⟩,h4⟩:=hfo'
  have hsw:kz j d 0 ops.toList=true:=by
   rw [hg] at h4; simp only [pW,hj,bu] at h4; exact h4.2
  have hne:o.dst≠some d:=ni _ 0 hsw i o h0 (by omega)
  have hpd:vy ρ o.dst undef d=ρ d:=by
   cases hdst:o.dst with
   | none=>rfl
   | some e=>rw [vy,sM]; intro ee; exact hne (by rw [hdst,ee])
  rw [bw,uF,iR,wpOps_cons]
  have hg4:=h4
  have hB:GuardO ops.toList ρ o.guard False True:=by
   rw [hg]; simp only [GuardO,hj,az]
   split
   ·rename_i c hc
    split
    ·rename_i e; subst e; exact absurd hc hd
    ·trivial
   ·trivial
  rcases Aa hr h4 hB with ⟨_,hF⟩|⟨hw,_⟩
  ·exact hF.elim
  ·unfold wpOp
   rw [h0']
   simp only [hw,JS,if_false]
   exact DA hf hj os (i+1) _ _ w rest (fun k o' hk'=>by
    have:=hl (k+1) o' (by simpa using hk')
    rw [show i+1+k=i+(k+1) by omega]; exact this) (by omega) (by rw [hpd]; exact hd) (hr.put h2 undef) hk

theorem rN:∀ (l:List Oper) (k:Nat),kK k l=true->∀ i o j b,l[i]?=some o->o.guard=some (j,b)->j<k+i
 | [],_,_,i,o,_,_,hi,_=>by simp at hi
 | x::xs,k,h,i,o,j,b,hi,hg=>by
  simp only [kK,bu] at h
  cases i with
  | zero=>
   simp only [F2,bg] at hi
   subst hi
   have:=h.1
   rw [hg] at this
   simpa [Nat.blt_eq] using this
  | succ i=>
   rw [mB] at hi
   have:=rN xs (k+1) h.2 i o j b hi hg
   omega

theorem Py (hf:FH n ops) (hb:kK 0 ops.toList=true) :
  ∀ (m:Nat) (l:List Oper) (i:Nat) (ρ:Env) (a:Act) (w:World) (K:Env->World->Prop),l.length<m->
   ops.toList.drop i=l->Rel n ρ a->Ds P ops.toList m l ρ w K->
   (∀ ρ' a' w',Rel n ρ' a'->K ρ' w'->Q .normal a' w')->wpOps P ops Q (List.range' i l.length) a w:=by
 intro m
 induction m with
 | zero=>intro l i ρ a w K hlt; omega
 | succ m ih=>
  intro l i ρ a w K hlt hl hr h hk
  cases l with
  | nil=>exact hk _ _ _ hr h
  | cons o os=>
   have hget:∀ k,(o::os)[k]?=ops.toList[i+k]?:=fun k=>by rw [<- hl,AD]
   have h0:ops.toList[i]?=some o:=by have:=hget 0; simpa using this.symm
   have hm:o∈ops.toList:=cz h0
   have hfo:=hf o hm
   have h0':ops[i]?=some o:=by simpa using h0
   have hfo':=hfo
   simp only [n6,bu] at hfo'
   obtain ⟨⟨⟨h1,h2⟩,h3⟩,h4⟩:=hfo'
   have hos:ops.toList.drop (i+1)=os:=by rw [<- Tn,hl]; rfl
   simp only [Ds] at h ih
   cases hg:o.guard with
   | none=>
    rw [hg] at h
    simp only [] at h
    rw [bw,uF,wpOps_cons]
    refine AX (ρ:=ρ) (w:=w) (K:=fun ρ' w'=>Ds P ops.toList m os ρ' w' K) h0' hr hfo ?_ ?_
    ·unfold opE; rw [hg]; exact h
    ·intro v w' hh
     exact ih os (i+1) _ _ w' K (by simp at hlt; omega) hos (hr.put h2 v) hh hk
   | some g=>
    obtain ⟨j,b⟩:=g
    rw [hg] at h
    simp only [] at h
    have hsplit:=BL (some (j,b)) os
    have hji:j<i:=by have:=rN _ 0 hb i o j b h0 hg; omega
    obtain ⟨d,hj⟩:∃ d,(ops.toList[j]?).bind (·.dst)=some d:=by
     rw [hg] at h4
     simp only [pW] at h4
     cases hd:(ops.toList[j]?).bind (·.dst) with
     | none=>rw [hd] at h4; simp at h4
     | some d=>exact ⟨d,rfl⟩
    have hpre:∀ k x,(o::grp (some (j,b)) os)[k]?=some x->ops.toList[i+k]?=some x/\x.guard=some (j,b):=by
     intro k x hx
     have hx':(o::os)[k]?=some x:=by
      rw [hsplit,<- iR,z0]
      ·exact hx
      ·exact (gx.1 hx).1
     refine ⟨by rw [<- hget k]; exact hx',?_⟩
     rcases bN.1 (cz hx) with rfl|hmem
     ·exact hg
     ·exact Un _ _ _ hmem
    have hlen:(o::os).length=(o::grp (some (j,b)) os).length+(nM (some (j,b)) os).length:=by
     have:=congrArg List.length hsplit
     simp only [bA] at this
     simp only [bw]; omega
    have hrest:ops.toList.drop (i+(o::grp (some (j,b)) os).length)=nM (some (j,b)) os:=by
     rw [<- Tn,hl]
     have e:o::os=(o::grp (some (j,b)) os)++nM (some (j,b)) os:=by rw [iR,<- hsplit]
     rw [e,Us]
    have hlt':(nM (some (j,b)) os).length<m:=by
     have:=zK (some (j,b)) os
     simp at hlt; omega
    rw [hlen,<- List.range'_append_1]
    simp only [GuardO,hj] at h
    by_cases hd:ρ d=.bool b
    ·rw [hd] at h
     simp only [az,if_true] at h
     exact GC hf hj _ i ρ a w _ _ hpre hji hd hr h fun ρ' a' w' hr' hh=>ih _ _ ρ' a' w' K hlt' hrest hr' hh hk
    ·have hB:Ds P ops.toList m (nM (some (j,b)) os) (N2 (o::grp (some (j,b)) os) ρ) w K:=by
      simp only [az] at h
      split at h
      ·rename_i c hc
       split at h
       ·rename_i e; subst e; exact absurd hc hd
       ·exact h
      ·exact h
     exact DA hf hj _ i ρ a w _ hpre hji hd hr fun a' hr'=>ih _ _ _ a' w K hlt' hrest hr' hB hk

theorem xD:∀ (l:List Edge) {D:Nat->Bool} {p:Prop},ww l D p->(∀ e∈l,Region.binds .any e=true->D e.on=true)->p
 | [],_,_,h,_=>h
 | e::es,D,p,h,hd=>by
  simp only [ww] at h
  cases hb:Region.binds .any e with
  | false=>rw [hb] at h; exact xD es h fun e' he'=>hd e' (aV _ he')
  | true=>rw [hb] at h; exact xD es (h (hd e (aS ..) hb)) fun e' he'=>hd e' (aV _ he')
theorem AO {D:Nat->Bool} {p:Prop}:∀ n:Nat,yd n D p->(∀ i,i<n->D i=true)->p
 | 0,h,_=>h
 | n+1,h,hd=>AO n (h (hd n (Re n))) fun i hi=>hd i (by omega)
def Uf (P:Program) (all:List Oper) (A:(Nat->Bool)->Env->World->Prop):Nat->List Oper->Prop
 | _,[]=>True
 | i,o::os=>(∀ D ρ w,D i=false->ww o.after.toList D (A D ρ w->opE P all o ρ w fun ρ' w'=>A (aD D i) ρ' w'))/\Uf P all A (i+1) os
theorem vG {A:(Nat->Bool)->Env->World->Prop} {all:List Oper}:∀ (l:List Oper) (k i:Nat) (o:Oper),Uf P all A k l->l[i]?=some o->
  ∀ D ρ w,D (k+i)=false->ww o.after.toList D (A D ρ w->opE P all o ρ w fun ρ' w'=>A (aD D (k+i)) ρ' w')
 | [],_,i,_,_,hi=>by simp at hi
 | x::xs,k,0,o,h,hi=>by
  simp only [F2,bg] at hi
  subst hi
  exact h.1
 | x::xs,k,i+1,o,h,hi=>by
  rw [mB] at hi
  have:=vG xs (k+1) i o h.2 hi
  rw [show k+1+i=k+(i+1) by omega] at this
  exact this
theorem KX:∀ (l:List Edge) {i:Nat},Uz i l=true->∀ e∈l,Region.binds .any e=true->e.on<i
 | [],_,_,e,he=>by simp at he
 | x::xs,i,h,e,he=>by
  simp only [Uz,bu,jR,jj,Nat.blt_eq] at h
  rcases bN.1 he with rfl|he
  ·intro hb
   rcases h.1 with h1|h1
   ·rw [h1] at hb; cases hb
   ·exact h1
  ·exact KX xs h.2 e he
theorem Lt:∀ (l:List Oper) (k:Nat),Fw k l=true->∀ i o,l[i]?=some o->∀ e∈o.after.toList,Region.binds .any e=true->e.on<k+i
 | [],_,_,i,o,hi=>by simp at hi
 | x::xs,k,h,i,o,hi=>by
  simp only [Fw,bu] at h
  cases i with
  | zero=>
   simp only [F2,bg] at hi
   subst hi
   exact fun e he=>KX _ h.1 e he
  | succ i=>
   rw [mB] at hi
   intro e he hb
   have:=Lt xs (k+1) h.2 i o hi e he hb
   omega

theorem BD {ops:Array Oper} {listed:Array Bool} {i:Nat}:i∈Region.ready .any ops listed ↔
  i<ops.size/\listed.getD i true=false/\∃ o,ops[i]?=some o/\∀ e∈o.after.toList,Region.binds .any e=true->listed.getD e.on false=true:=by
 simp only [Region.ready,List.mem_filter,List.mem_range,bu,jj]
 constructor
 ·rintro ⟨h1,h2,h3⟩
  refine ⟨h1,h2,ops[i],by simp [h1],fun e he hb=>?_⟩
  simp only [h1,getElem?_pos,sw,Option.getD_some,Array.all_eq_true] at h3
  obtain ⟨k,hk,rfl⟩:=zo he
  have:=h3 k (by simpa using hk)
  simp only [Array.getElem_toList] at hb ⊢
  rw [hb] at this
  simpa using this
 ·rintro ⟨h1,h2,o,ho,h3⟩
  refine ⟨h1,h2,?_⟩
  rw [ho]
  simp only [sw,Option.getD_some,Array.all_eq_true]
  intro k hk
  cases hb:Region.binds .any (o.after[k]) with
  | false=>simp
  | true=>simpa using h3 _ (by simp) hb

theorem Tb {ops:Array Oper} {listed:Array Bool} (hsz:listed.size=ops.size) (hb:Fw 0 ops.toList=true)
  (h:Region.ready .any ops listed=[]):∀ i,i<ops.size->listed.getD i false=true:=by
 intro i
 induction i using Nat.strongRecOn with
 | _ i ih=>
  intro hi
  by_cases hl:listed.getD i false=true
  ·exact hl
  ·exfalso
   have hi':i<listed.size:=by omega
   have:i∈Region.ready .any ops listed:=by
    rw [BD]
    refine ⟨hi,?_,ops[i],by simp [hi],fun e he hbe=>?_⟩
    ·simpa [Array.getD_eq_getD_getElem?,hi'] using hl
    ·have:=Lt _ 0 hb i ops[i] (by simp [hi]) e he hbe
     exact ih e.on (by omega) (by omega)
   rw [h] at this
   simp at this

theorem Xq {listed:Array Bool} {i:Nat} (hi:i<listed.size) (j:Nat) :
  (listed.setIfInBounds i true).getD j false=aD (fun j=>listed.getD j false) i j:=by
 simp only [aD,Array.getD_eq_getD_getElem?]
 by_cases e:j=i
 ·subst e
  simp [hi]
 ·rw [Zf (by omega)]
  simp [e]

theorem SQ (hf:FH n ops) (hb:Fw 0 ops.toList=true) {A:(Nat->Bool)->Env->World->Prop}
  (hA:Uf P ops.toList A 0 ops.toList) 
  (hQ:∀ D ρ a w,Rel n ρ a->(∀ i,i<ops.size->D i=true)->A D ρ w->Q .normal a w) :
  ∀ (fuel:Nat) (listed:Array Bool) (ρ:Env) (a:Act) (w:World),listed.size=ops.size->Rel n ρ a->A (fun j=>listed.getD j false) ρ w->
   (∀ k,k+fuel=ops.size->k<=(listed.toList.filter id).length)->
   wpAny P .any ops Q fuel listed a w:=by
 intro fuel
 induction fuel with
 | zero=>
  intro listed ρ a w hsz hr h hcount
  have hc:=hcount ops.size (by omega)
  have hall:∀ i,i<ops.size->listed.getD i false=true:=by
   intro i hi
   have hle:(listed.toList.filter id).length<=listed.toList.length:=W3 _ _
   have heq:(listed.toList.filter id).length=listed.toList.length:=by simp at *; omega
   have:=(List.length_filter_eq_length_iff.1 heq) (listed[i]) (by simp)
   simpa [Array.getD_eq_getD_getElem?,show i<listed.size by omega] using this
  refine ⟨?_,hQ _ ρ a w hr hall h⟩
  cases hrd:Region.ready .any ops listed with
  | nil=>rfl
  | cons x xs=>
   have hx:x∈Region.ready .any ops listed:=by rw [hrd]; simp
   rw [BD] at hx
   have h1:=hall x hx.1
   have h2:=hx.2.1
   have hxs:x<listed.size:=by omega
   simp [Array.getD_eq_getD_getElem?,hxs] at h1 h2
   rw [h1] at h2; simp at h2
 | succ fuel ih=>
  intro listed ρ a w hsz hr h hcount
  refine ⟨fun hnil=>hQ _ ρ a w hr (Tb hsz hb hnil) h,fun i hi=>?_⟩
  rw [BD] at hi
  obtain ⟨hi1,hi2,o,ho,hi3⟩:=hi
  have hil:i<listed.size:=by omega
  have hD:listed.getD i false=false:=by
   simpa [Array.getD_eq_getD_getElem?,hil] using hi2
  have hol:ops.toList[i]?=some o:=by simpa using ho
  have hstep:=vG ops.toList 0 i o hA hol (fun j=>listed.getD j false) ρ w (by simpa using hD)
  rw [cq] at hstep
  have hstep':=xD _ hstep hi3 h
  have hfo:=hf o (cz hol)
  have h2:MA n o.dst=true:=by
   simp only [n6,bu] at hfo; exact hfo.1.1.2
  refine AX ho hr hfo hstep' fun v w' hh=>?_
  refine ih _ _ _ _ (by simpa using hsz) (hr.put h2 v) (by rw [show (fun j=>(listed.setIfInBounds i true).getD j false)=aD (fun j=>listed.getD j false) i from funext (Xq hil)]; exact hh) ?_
  intro k hk
  have hc:=hcount (k - 1)
  have:(listed.toList.filter id).length+1<=((listed.setIfInBounds i true).toList.filter id).length:=by
   have hlist:(listed.setIfInBounds i true).toList=listed.toList.set i true:=by simp
   rw [hlist]
   have hg:listed.toList[i]?=some false:=by
    have:listed[i]?=some false:=by
     simp [Array.getD_eq_getD_getElem?,hil] at hD
     simp [hil,hD]
    simpa using this
   exact aux i _ hg
  by_cases hk0:k=0
  ·omega
  ·have:=hc (by omega)
   omega
where
 aux:∀ (i:Nat) (xs:List Bool),xs[i]?=some false->(xs.filter id).length+1<=((xs.set i true).filter id).length
  | i,[],h=>by simp at h
  | 0,x::xs,h=>by simp at h; subst h; simp
  | i+1,x::xs,h=>by
   simp only [mB] at h
   have:=aux i xs h
   simp only [Nb,uO]
   split <;> simp <;> omega
end ops
end
section
open Go

def Wo (l:List Oper) (t:Nat):Prop:=∃ o∈l,o.dst=some t
def Wc:Code->Nat->Prop
 | .region _ ops _,t=>Wo ops.toList t
 | .seq a b,t|.cond _ a b,t=>Wc a t ∨ Wc b t
 | .block _ a,t|.loop a,t|.scope a,t=>Wc a t
 | _,_=>False

theorem md {t:Nat}:∀ (ops:List Oper) (l:List Nat),t∈qg ops l↔t∈l ∨ Wo ops t
 | [],l=>by simp [qg,Wo]
 | o::os,l=>by
  simp only [qg]
  cases hd:o.dst with
  | none=>
   rw [md os l]
   simp [Wo,hd]
  | some d=>
   simp only []
   cases he:l.elem d with
   | true=>
    have hm:d∈l:=by simpa using he
    simp only []
    rw [md os l]
    simp only [Wo,bN,exists_eq_or_imp,hd,bg]
    constructor
    ·rintro (h|h)
     ·exact .inl h
     ·exact .inr (.inr h)
    ·rintro (h|h|h)
     ·exact .inl h
     ·subst h; exact .inl hm
     ·exact .inr h
   | false=>
    simp only []
    rw [md os (d::l)]
    simp only [Wo,bN,exists_eq_or_imp,hd,bg]
    constructor
    ·rintro ((h|h)|h)
     ·exact .inr (.inl h.symm)
     ·exact .inl h
     ·exact .inr (.inr h)
    ·rintro (h|h|h)
     ·exact .inl (.inr h)
     ·exact .inl (.inl h.symm)
     ·exact .inr h

theorem mp {t:Nat}:∀ (c:Code) (l:List Nat),t∈wr c l↔t∈l ∨ Wc c t
 | .region _ ops _,l=>md ops.toList l
 | .seq a b,l=>by simp only [wr,Wc]; rw [mp b,mp a,or_assoc]
 | .cond _ a b,l=>by simp only [wr,Wc]; rw [mp b,mp a,or_assoc]
 | .block _ a,l=>by simp only [wr,Wc]; exact mp a l
 | .loop a,l=>by simp only [wr,Wc]; exact mp a l
 | .scope a,l=>by simp only [wr,Wc]; exact mp a l
 | .skip,l|.ret,l|.exit _,l|.label _,l|.goto _,l|.refuse _,l|.rangeFunc ..,l=>by simp [wr,Wc]

def Agr (W:Nat->Prop) (ρ ρ':Env):Prop:=∀ t,¬ W t->ρ' t=ρ t
theorem Agr.refl (W:Nat->Prop) (ρ:Env):Agr W ρ ρ:=fun _ _=>rfl
theorem Agr.trans {W:Nat->Prop} {ρ ρ' ρ'':Env} (h:Agr W ρ ρ') (h':Agr W ρ' ρ''):Agr W ρ ρ'':=fun t ht=>(h' t ht).trans (h t ht)
theorem Agr.mono {W W':Nat->Prop} {ρ ρ':Env} (h:Agr W ρ ρ') (hw:∀ t,W t->W' t):Agr W' ρ ρ':=fun t ht=>h t fun hh=>ht (hw t hh)
theorem Agr.put {W:Nat->Prop} (ρ:Env) (dst:Option Nat) (v:Value) (h:∀ d,dst=some d->W d):Agr W ρ (vy ρ dst v):=by
 cases dst with
 | none=>exact Agr.refl _ _
 | some d=>exact fun t ht=>sM ρ v fun e=>ht (e ▸ h d rfl)

theorem fq:∀ (l:List Nat) (ρ:Env) (p:Env->Prop),l5 l ρ p->∀ ρ',(∀ t,t ∉ l->ρ' t=ρ t)->p ρ'
 | [],ρ,p,h,ρ',e=>by have:ρ'=ρ:=funext fun t=>e t (by simp); rw [this]; exact h
 | m::l,ρ,p,h,ρ',e=>by
  refine fq l (upd ρ m (ρ' m)) p (h (ρ' m)) ρ' fun t ht=>?_
  by_cases hm:t=m
  ·subst hm; rw [FW]
  ·rw [sM _ _ hm]; exact e t (by simp [hm,ht])
theorem kE:∀ (l:List Nat) (ρ:Env) (p:Env->Prop),(∀ ρ',(∀ t,t ∉ l->ρ' t=ρ t)->p ρ')->l5 l ρ p
 | [],ρ,p,h=>h ρ fun _ _=>rfl
 | m::l,ρ,p,h=>fun x=>kE l _ p fun ρ' e=>h ρ' fun t ht=>by
   have hne:t≠m:=fun hh=>ht (by rw [hh]; exact aS ..)
   rw [e t (fun hh=>ht (aV _ hh)),sM _ _ hne]

theorem GuardO.mono {ops:List Oper} {ρ:Env} {g:Option (Nat × Bool)} {A B A' B':Prop} (h:GuardO ops ρ g A B) (ha:A->A') (hb:B->B') :
  GuardO ops ρ g A' B':=by
 unfold GuardO az at *
 split
 ·exact ha h
 ·rename_i j b
  simp only [] at h
  split
  ·rename_i d hd
   rw [hd] at h
   simp only [] at h
   split
   ·rename_i c hc
    rw [hc] at h
    simp only [] at h
    split
    ·rename_i e; rw [ai e] at h; exact ha h
    ·rename_i e; rw [ah e] at h; exact hb h
   ·rename_i hv
    split at h
    ·rename_i c hc; exact absurd hc (hv c)
    ·exact hb h
  ·rename_i hd
   rw [hd] at h
   exact hb h

section mono
variable {P:Program}
theorem Lg:∀ (l:List Oper) (ρ:Env) (w:World) (K K':Env->World->Prop),VD P l ρ w K->
  (∀ ρ' w',Agr (Wo l) ρ ρ'->K ρ' w'->K' ρ' w')->VD P l ρ w K'
 | [],ρ,w,K,K',h,hk=>hk _ _ (Agr.refl _ _) h
 | o::os,ρ,w,K,K',h,hk=>by
  refine stepE.mono h fun v w' hh=>Lg os _ w' K K' hh fun ρ' w'' ha=>hk ρ' w'' ?_
  exact (Agr.put ρ o.dst v fun d hd=>⟨o,aS ..,hd⟩).trans
   (ha.mono fun t ⟨o',h1,h2⟩=>⟨o',aV _ h1,h2⟩)
theorem KY:∀ (l:List Oper) (ρ:Env),Agr (Wo l) ρ (N2 l ρ)
 | [],_=>Agr.refl _ _
 | o::os,ρ=>(Agr.put ρ o.dst undef fun _ hd=>⟨o,aS ..,hd⟩).trans
   ((KY os _).mono fun _ ⟨o',h1,h2⟩=>⟨o',aV _ h1,h2⟩)

theorem Te {all:List Oper}:∀ (m:Nat) (l:List Oper) (ρ:Env) (w:World) (K K':Env->World->Prop),Ds P all m l ρ w K->
  (∀ ρ' w',Agr (Wo l) ρ ρ'->K ρ' w'->K' ρ' w')->Ds P all m l ρ w K':=by
 intro m
 induction m with
 | zero=>intro l ρ w K K' h; exact h.elim
 | succ m ih=>
  intro l ρ w K K' h hk
  cases l with
  | nil=>exact hk _ _ (Agr.refl _ _) h
  | cons o os=>
   simp only [Ds] at h ih ⊢
   cases hg:o.guard with
   | none=>
    rw [hg] at h
    simp only [] at h ⊢
    refine stepE.mono h fun v w' hh=>ih os _ w' K K' hh fun ρ' w'' ha=>hk ρ' w'' ?_
    exact (Agr.put ρ o.dst v fun d hd=>⟨o,aS ..,hd⟩).trans
     (ha.mono fun t ⟨o',h1,h2⟩=>⟨o',aV _ h1,h2⟩)
   | some g=>
    rw [hg] at h
    simp only [] at h ⊢
    have hs:=BL (some g) os
    have w1:∀ t,Wo (o::grp (some g) os) t->Wo (o::os) t:=fun t ⟨o',h1,h2⟩=>⟨o',by
     rw [hs,<- iR]; exact dy _ h1,h2⟩
    have w2:∀ t,Wo (nM (some g) os) t->Wo (o::os) t:=fun t ⟨o',h1,h2⟩=>⟨o',by
     rw [hs,<- iR]; exact iA _ h1,h2⟩
    refine GuardO.mono h (fun hh=>?_) (fun hh=>?_)
    ·refine Lg _ _ _ _ _ hh fun ρ' w' ha hh'=>ih _ _ _ K K' hh' fun ρ'' w'' ha'=>hk ρ'' w'' ?_
     exact (ha.mono w1).trans (ha'.mono w2)
    ·refine ih _ _ _ K K' hh fun ρ'' w'' ha'=>hk ρ'' w'' ?_
     exact ((KY _ _).mono w1).trans (ha'.mono w2)

theorem xL:∀ (l:List Edge) {D:Nat->Bool} {p q:Prop},ww l D p->(p->q)->ww l D q
 | [],_,_,_,h,hq=>hq h
 | e::es,D,p,q,h,hq=>by
  simp only [ww] at h ⊢
  cases hb:Region.binds .any e with
  | false=>rw [hb] at h; exact xL es h hq
  | true=>rw [hb] at h; exact fun hd=>xL es (h hd) hq
theorem yV {D:Nat->Bool} {p q:Prop}:∀ n:Nat,yd n D p->(p->q)->yd n D q
 | 0,h,hq=>hq h
 | n+1,h,hq=>fun hd=>yV n (h hd) hq
theorem Xf {all:List Oper} {o:Oper} {ρ:Env} {w:World} {K K':Env->World->Prop} (h:opE P all o ρ w K)
  (hk:∀ v w',K (vy ρ o.dst v) w'->K' (vy ρ o.dst v) w'):opE P all o ρ w K':=
 GuardO.mono h (fun hh=>stepE.mono hh fun v w'=>hk v w') (hk _ _)
theorem Ns:∀ (l:List Nat) (ρ:Env) {p q:Env->Prop},l5 l ρ p->(∀ ρ',(∀ t,t ∉ l->ρ' t=ρ t)->p ρ'->q ρ')->l5 l ρ q:=
 fun l ρ p _ h hq=>kE l ρ _ fun ρ' e=>hq ρ' e (fq l ρ p h ρ' e)
theorem NY {ops:List Oper} {ρ:Env} {w:World} {K K':Env->World->Prop} (h:SC P ops ρ w K)
  (hk:∀ ρ' w',Agr (Wo ops) ρ ρ'->K ρ' w'->K' ρ' w'):SC P ops ρ w K':=by
 obtain ⟨A,h1,h2,h3⟩:=h
 refine ⟨A,h1,h2,fun D=>?_⟩
 refine yV _ (h3 D) fun hh=>Ns _ _ hh fun ρ' hρ' hp w' hA=>hk ρ' w' (fun t ht=>hρ' t fun hm=>ht ?_) (hp w' hA)
 exact ((md ops []).1 hm).resolve_left (by simp)
theorem vQ {all:List Oper} {M:List Nat} {A:(Nat->Bool)->Cur (World->Prop) M} {ρ:Env} (hM:∀ t,Wo all t->t∈M):∀ (l:List Oper) (i:Nat),(∀ t,Wo l t->Wo all t)->
  BV P all M A ρ i l->Uf P all (fun D ρ' w'=>ap M (A D) ρ' w'/\Agr (Wo all) ρ ρ') i l
 | [],_,_,_=>trivial
 | o::os,i,hw,h=>by
  refine ⟨fun D ρ' w' hD=>?_,vQ hM os (i+1) (fun t ⟨o',h1,h2⟩=>hw t ⟨o',aV _ h1,h2⟩) h.2⟩
  refine xL _ (h.1 D hD) fun hh hA=>?_
  have h1:=fq _ _ _ hh ρ' (fun t ht=>hA.2 t fun hwt=>ht (hM t hwt)) w' hA.1
  exact Xf h1 fun v w'' hv=>⟨hv,hA.2.trans (Agr.put ρ' o.dst v fun d hd=>hw d ⟨o,aS ..,hd⟩)⟩

theorem CondV.mono {v:Value} {A B A' B':Prop} (h:CondV v A B) (ha:A->A') (hb:B->B'):CondV v A' B':=by
 unfold CondV at *
 split
 ·rename_i c
  simp only [] at h
  split
  ·rename_i e; rw [ai e] at h; exact ha h
  ·rename_i e; rw [ah e] at h; exact hb h
 ·rename_i hv
  split at h
  ·rename_i c; exact absurd rfl (hv c)
  ·exact h

theorem kW {K K':Env->World->Prop} {Q Q':Exit->Env->World->Prop} {ρ:Env} {w:World} (hk:K ρ w->K' ρ w)
  (hq:∀ e,Q e ρ w->Q' e ρ w):∀ e,CO K Q e ρ w->CO K' Q' e ρ w:=by
 intro e
 cases e <;> first|exact hk|exact hq _

theorem kH:∀ (c:Code) (an:An) (Q Q':Exit->Env->World->Prop) (ρ:Env) (w:World),vc P c an Q ρ w->
  (∀ e ρ' w',Agr (Wc c) ρ ρ'->Q e ρ' w'->Q' e ρ' w')->vc P c an Q' ρ w
 | .skip,an,Q,Q',ρ,w,h,hq=>hq _ _ _ (Agr.refl _ _) h
 | .ret,an,Q,Q',ρ,w,h,hq=>hq _ _ _ (Agr.refl _ _) h
 | .exit id,an,Q,Q',ρ,w,h,hq=>hq _ _ _ (Agr.refl _ _) h
 | .region id ops draw,an,Q,Q',ρ,w,h,hq=>by
  simp only [vc] at h ⊢
  cases draw with
  | true=>exact NY h fun ρ' w' ha=>hq _ ρ' w' ha
  | false=>exact Te _ _ _ _ _ _ (by simpa only [cond_false] using h) fun ρ' w' ha=>hq _ ρ' w' ha
 | .seq a b,an,Q,Q',ρ,w,h,hq=>by
  simp only [vc] at h ⊢
  cases hc:an.cut with
  | none=>
   rw [hc] at h
   simp only [] at h ⊢
   refine kH a _ _ _ ρ w h fun e ρ' w' ha=>?_
   refine kW (fun hh=>?_) (fun e' hh=>hq e' ρ' w' (ha.mono fun t=>.inl) hh) e
   exact kH b _ _ _ ρ' w' hh fun e' ρ'' w'' ha'=>hq e' ρ'' w'' ((ha.mono fun t=>.inl).trans (ha'.mono fun t=>.inr))
  | some lv=>
   rw [hc] at h
   simp only [] at h ⊢
   obtain ⟨J,h1,h2⟩:=h
   refine ⟨J,?_,?_⟩
   ·refine kH a _ _ _ ρ w h1 fun e ρ' w' ha=>?_
    exact kW id (fun e' hh=>hq e' ρ' w' (ha.mono fun t=>.inl) hh) e
   ·refine kE _ _ _ fun ρ' hρ' w' hJ=>?_
    have ha:Agr (Wc a) ρ ρ':=fun t ht=>hρ' t fun hm=>ht (((mp a []).1 hm).resolve_left (by simp))
    exact kH b _ _ _ ρ' w' (fq _ _ _ h2 ρ' hρ' w' hJ) fun e' ρ'' w'' ha'=>
     hq e' ρ'' w'' ((ha.mono fun t=>.inl).trans (ha'.mono fun t=>.inr))
 | .cond x a b,an,Q,Q',ρ,w,h,hq=>by
  simp only [vc] at h ⊢
  exact CondV.mono h (fun hh=>kH a _ _ _ ρ w hh fun e ρ' w' ha=>hq e ρ' w' (ha.mono fun t=>.inl))
   (fun hh=>kH b _ _ _ ρ w hh fun e ρ' w' ha=>hq e ρ' w' (ha.mono fun t=>.inr))
 | .block id a,an,Q,Q',ρ,w,h,hq=>by
  simp only [vc] at h ⊢
  refine kH a _ _ _ ρ w h fun e ρ' w' ha hh=>?_
  cases e with
  | exit id'=>
   simp only [RA] at hh ⊢
   cases hb:Nat.beq id' id <;> rw [hb] at hh <;> exact hq _ ρ' w' ha hh
  | _=>exact hq _ ρ' w' ha hh
 | .loop a,an,Q,Q',ρ,w,h,hq=>by
  simp only [vc] at h ⊢
  obtain ⟨I,μ,h1,h2⟩:=h
  refine ⟨I,μ,h1,kE _ _ _ fun ρ' hρ' w' hI=>?_⟩
  have ha:Agr (Wc a) ρ ρ':=fun t ht=>hρ' t fun hm=>ht (((mp a []).1 hm).resolve_left (by simp))
  refine kH a _ _ _ ρ' w' (fq _ _ _ h2 ρ' hρ' w' hI) fun e ρ'' w'' ha'=>?_
  exact kW id (fun e' hh=>hq e' ρ'' w'' (ha.trans ha') hh) e
 | .scope ..,_,_,_,_,_,h,_|.label ..,_,_,_,_,_,h,_|.goto ..,_,_,_,_,_,h,_|.refuse ..,_,_,_,_,_,h,_
 | .rangeFunc ..,_,_,_,_,_,h,_=>h.elim
end mono

def Kt (a:Act):Env:=fun t=>a.tmps.getD t undef
theorem Rel.env {n:Nat} {ρ:Env} {a:Act} (h:Rel n ρ a):ρ=Kt a:=by
 funext t
 by_cases ht:t<n
 ·simp [Kt,Array.getD_eq_getD_getElem?,h.at_ t ht]
 ·rw [h.out t (by omega)]
  simp [Kt,Array.getD_eq_getD_getElem?,h.size,show ¬ t<n from ht]

section sound
variable {P:Program} {n:Nat}
def post (n:Nat) (Q:Exit->Env->World->Prop):Exit->Act->World->Prop:=fun e a w=>∃ ρ,Rel n ρ a/\Q e ρ w

theorem BU {K:Env->World->Prop} {Q:Exit->Env->World->Prop} {next:Act->World->Prop} {Q':Exit->Act->World->Prop} {a:Act} {w:World}
  (hk:∀ ρ,Rel n ρ a->K ρ w->next a w) (hq:∀ e ρ,Rel n ρ a->Q e ρ w->Q' e a w):∀ e,post n (CO K Q) e a w->Exit.then next Q' e a w:=by
 rintro e ⟨ρ,hr,h⟩
 cases e <;> first|exact hk ρ hr h|exact hq _ ρ hr h

theorem jH (hm:P.follows .mixedOrders=true):∀ (c:Code) (an:An) (Q:Exit->Env->World->Prop) (ρ:Env) (w:World) (a:Act),Rel n ρ a->
  BH n c=true->vc P c an Q ρ w->c.wp P (post n Q) a w
 | .skip,an,Q,ρ,w,a,hr,_,h=>wp_skip ⟨ρ,hr,h⟩
 | .ret,an,Q,ρ,w,a,hr,_,h=>wp_ret ⟨ρ,hr,h⟩
 | .exit id,an,Q,ρ,w,a,hr,_,h=>wp_exit ⟨ρ,hr,h⟩
 | .region id ops draw,an,Q,ρ,w,a,hr,hf,h=>by
  simp only [BH,bu,jR,jj] at hf
  obtain ⟨⟨hf1,hf2⟩,hf3⟩:=hf
  have hfa:FH n ops:=fun o ho=>dE.1 hf1 o ho
  simp only [vc] at h
  cases draw with
  | true=>
   obtain ⟨A,h1,h2,h3⟩:=h
   have hb:Fw 0 ops.toList=true:=by simpa using hf3
   refine wp_region_any hm ?_
   have hW:∀ t,Wo ops.toList t->t∈qg ops.toList []:=fun t ht=>(md _ _).2 (.inr ht)
   refine SQ hfa hb (vQ hW _ 0 (fun _ h=>h) h2) ?_ _ _ ρ a _ (by simp) hr ?_ ?_
   ·intro D ρ' a' w' hr' hD hA
    have h4:=AO _ (h3 D) (fun i hi=>hD i (by simpa using hi))
    exact ⟨ρ',hr',fq _ _ _ h4 ρ' (fun t ht=>hA.2 t fun hw=>ht (hW t hw)) w' hA.1⟩
   ·have:(fun j=>(Array.replicate ops.size false).getD j false)=fun _=>false:=by
     funext j
     simp only [Array.getD_eq_getD_getElem?,Array.getElem?_replicate]
     split <;> rfl
    rw [this]; exact ⟨h1,Agr.refl _ _⟩
   ·intro k hk; omega
  | false=>
   refine wp_region ?_
   have:=Py (Q:=post n Q) hfa hf2 _ ops.toList 0 ρ a w _ (Re _) rfl hr h fun ρ' a' w' hr' hh=>⟨ρ',hr',hh⟩
   simpa [List.range_eq_range'] using this
 | .seq x y,an,Q,ρ,w,a,hr,hf,h=>by
  simp only [BH,bu] at hf
  simp only [vc] at h
  cases hc:an.cut with
  | none=>
   rw [hc] at h
   simp only [] at h
   refine wp_seq (wp_mono (jH hm x _ _ ρ w a hr hf.1 h) fun e a' w'=>?_)
   exact BU (fun ρ' hr' hh=>jH hm y _ _ ρ' w' a' hr' hf.2 hh) (fun e' ρ' hr' hh=>⟨ρ',hr',hh⟩) e
  | some lv=>
   rw [hc] at h
   simp only [] at h
   obtain ⟨J,h1,h2⟩:=h
   have h1':=kH x _ _ (CO (fun ρ' w'=>ap lv J ρ' w'/\Agr (Wc x) ρ ρ') Q) ρ w h1 fun e ρ' w' ha=>
    kW (fun hh=>⟨hh,ha⟩) (fun _=>id) e
   refine wp_seq (wp_mono (jH hm x _ _ ρ w a hr hf.1 h1') fun e a' w'=>?_)
   refine BU (fun ρ' hr' hh=>?_) (fun e' ρ' hr' hh=>⟨ρ',hr',hh⟩) e
   refine jH hm y _ _ ρ' w' a' hr' hf.2 (fq _ _ _ h2 ρ' (fun t ht=>hh.2 t fun hw=>ht ?_) w' hh.1)
   exact (mp x []).2 (.inr hw)
 | .cond x c d,an,Q,ρ,w,a,hr,hf,h=>by
  simp only [BH,bu] at hf
  simp only [vc] at h
  have he:=hr.eval hf.1.1
  unfold CondV at h
  split at h
  ·rename_i t ht
   rw [ht] at he
   refine wp_cond he ?_
   split at h
   ·rename_i e; rw [ai e]; exact jH hm c _ _ ρ w a hr hf.1.2 h
   ·rename_i e; rw [ah e]; exact jH hm d _ _ ρ w a hr hf.2 h
  ·exact h.elim
 | .block id c,an,Q,ρ,w,a,hr,hf,h=>by
  simp only [BH] at hf
  simp only [vc] at h
  refine wp_block (wp_mono (jH hm c _ _ ρ w a hr hf h) fun e a' w'=>?_)
  rintro ⟨ρ',hr',hh⟩
  cases e with
  | exit id'=>
   simp only [RA] at hh
   simp only [Exit.inBlock]
   by_cases e:id'=id
   ·have:Nat.beq id' id=true:=by simpa using e
    rw [this] at hh
    rw [ai e]; exact ⟨ρ',hr',hh⟩
   ·have:Nat.beq id' id=false:=by simpa [<- Bool.not_eq_true] using e
    rw [this] at hh
    rw [ah e]; exact ⟨ρ',hr',hh⟩
  | _=>exact ⟨ρ',hr',hh⟩
 | .loop c,an,Q,ρ,w,a,hr,hf,h=>by
  simp only [BH] at hf
  simp only [vc] at h
  obtain ⟨I,μ,h1,h2⟩:=h
  refine wp_loop (fun a' w'=>∃ ρ',Rel n ρ' a'/\Agr (Wc c) ρ ρ'/\ap an.live I ρ' w') (fun a' w'=>ap an.live μ (Kt a') w')
   ⟨ρ,hr,Agr.refl _ _,h1⟩ ?_
  rintro a' w' ⟨ρ',hr',ha',hI⟩
  have h2':=fq _ _ _ h2 ρ' (fun t ht=>ha' t fun hw=>ht ((mp c []).2 (.inr hw))) w' hI
  have h3:=kH c _ _ (CO (fun ρ'' w''=>(ap an.live I ρ'' w''/\ap an.live μ ρ'' w''<ap an.live μ ρ' w')/\Agr (Wc c) ρ' ρ'') Q) ρ' w' h2'
   fun e ρ'' w'' ha=>kW (fun hh=>⟨hh,ha⟩) (fun _=>id) e
  refine wp_mono (jH hm c _ _ ρ' w' a' hr' hf h3) fun e a'' w''=>?_
  refine BU (fun ρ'' hr'' hh=>⟨⟨ρ'',hr'',ha'.trans hh.2,hh.1.1⟩,?_⟩) (fun e' ρ'' hr'' hh=>⟨ρ'',hr'',hh⟩) e
  rw [<- hr''.env,<- hr'.env]
  exact hh.1.2
 | .scope ..,_,_,_,_,_,_,_,h|.label ..,_,_,_,_,_,_,_,h|.goto ..,_,_,_,_,_,_,_,h|.refuse ..,_,_,_,_,_,_,_,h
 | .rangeFunc ..,_,_,_,_,_,_,_,h=>h.elim
end sound

def aO (P:Program) (T:TypeId) (p:Value) (w:World) (K:Value->Prop):Prop:=
 ∃ v,(do loadVar T (<- asAddr p):Sem Value).run P w=.ok v w/\K v
def YT (P:Program):List ResultVar->Env->World->(List Value->Prop)->Prop
 | [],_,_,K=>K []
 | .tmp t::rs,ρ,w,K=>YT P rs ρ w fun vs=>K (ρ t::vs)
 | .cell t T::rs,ρ,w,K=>aO P T (ρ t) w fun v=>YT P rs ρ w fun vs=>K (v::vs)
def Zo:List Value->Value
 | [v]=>v
 | vs=>.tuple vs.toArray
def abl (P:Program) (rs:List ResultVar) (ρ:Env) (w:World) (R:Ending->World->Prop):Prop:=
 YT P rs ρ w fun vs=>R (.returned (Zo vs)) w
def OT (P:Program) (rs:List ResultVar) (R:Ending->World->Prop):Exit->Env->World->Prop
 | .normal,ρ,w|.ret,ρ,w=>abl P rs ρ w R
 | _,_,_=>False

def Zk (tmps:Array Value):ResultVar->Sem Value
 | .tmp t=>pure (tmps.getD t undef)
 | .cell t T=>do loadVar T (<- asAddr (tmps.getD t undef))
theorem R5 (fn:Func) (tmps:Array Value):results fn tmps=(do
  let vs <- fn.results.mapM (Zk tmps)
  pure (if h:vs.size=1 then vs[0] else .tuple vs)):=by
 unfold results
 congr 2
theorem G7 {P:Program} {a:Act} {w:World}:∀ (rs:List ResultVar) (K:List Value->Prop),YT P rs (Kt a) w K->
  ∃ vs,(rs.mapM (Zk a.tmps)).run P w=.ok vs w/\vs.length=rs.length/\K vs
 | [],K,h=>⟨[],by simp,rfl,h⟩
 | .tmp t::rs,K,h=>by
  obtain ⟨vs,h1,h2,h3⟩:=G7 rs _ h
  refine ⟨_::vs,?_,by simp [h2],h3⟩
  rw [List.mapM_cons]
  simp only [Sem.run_bind,Zk,Sem.run_pure,Result.andThen_ok,h1]
  rfl
 | .cell t T::rs,K,h=>by
  obtain ⟨v,h0,h⟩:=h
  obtain ⟨vs,h1,h2,h3⟩:=G7 rs _ h
  refine ⟨v::vs,?_,by simp [h2],h3⟩
  rw [List.mapM_cons]
  have h0':(Zk a.tmps (.cell t T)).run P w=.ok v w:=h0
  simp only [Sem.run_bind,h0',Result.andThen_ok,h1,Sem.run_pure]

theorem D0 {P:Program} {fn:Func} {a:Act} {w:World} {R:Ending->World->Prop}
  (h:abl P fn.results.toList (Kt a) w R):∃ v,(results fn a.tmps).run P w=.ok v w/\R (.returned v) w:=by
 obtain ⟨vs,h1,h2,h3⟩:=G7 fn.results.toList _ h
 refine ⟨_,?_,h3⟩
 rw [R5,Array.mapM_eq_mapM_toList]
 simp only [Sem.run_bind,Sem.run_map,h1,Result.andThen_ok,Sem.run_pure]
 congr 1
 match vs with
 | []=>simp [Zo]
 | [v]=>simp [Zo]
 | v::u::r=>simp [Zo]

def ph:Nat->List Value->Env->Env
 | _,[],ρ=>ρ
 | k,v::vs,ρ=>ph (k+1) vs (upd ρ k v)
theorem Gq:∀ (l:List Value) (k:Nat) (ρ:Env) (t:Nat),ph k l ρ t=if k<=t/\t<k+l.length then (l[t - k]?).getD undef else ρ t
 | [],k,ρ,t=>by simp [ph]; intro h1 h2; omega
 | v::vs,k,ρ,t=>by
  rw [ph,Gq vs (k+1) _ t]
  by_cases h:t=k
  ·subst h
   rw [ah (by omega),ai (by simp),FW]
   simp
  ·rw [sM _ _ h]
   by_cases h1:k+1<=t/\t<k+1+vs.length
   ·rw [ai h1,ai (by simp; omega)]
    rw [show t - k=(t - (k+1))+1 by omega,mB]
   ·rw [ah h1,ah (by simp; omega)]

theorem OQ {P:Program} {f:FuncId} {fn:Func} {c:Code} {n:Nat} (an:An) {args:List Value} {w:World} {R:Ending->World->Prop}
  (hm:P.follows .mixedOrders=true) (hf:P.funcs[f]?=some fn) (hb:fn.body=some c) (hn:fn.ntmps=n) (hl:Nat.ble args.length n=true)
  (hfit:BH n c=true) (h:vc P c an (OT P fn.results.toList R) (ph 0 args fun _=>undef) w):Calls P f args.toArray w R:=by
 have hl':args.length<=n:=jw hl
 refine calls_of_wp hf hb ?_
 have hr:Rel n (ph 0 args fun _=>undef) { tmps:=args.toArray++Array.replicate (fn.ntmps - args.toArray.size) undef,defers:=[] }:=by
  refine ⟨by simp; omega,fun t ht=>?_,fun t ht=>?_,rfl⟩
  ·rw [Gq]
   by_cases h1:t<args.length
   ·rw [ai (by omega)]
    simp [Array.getElem?_append,h1]
   ·rw [ah (by omega)]
    rw [Array.getElem?_append_right (by simp; omega),Array.getElem?_replicate,ai (by simp; omega)]
  ·rw [Gq,ah (by omega)]
 refine wp_mono (jH hm c an _ _ w _ hr hfit h) fun e a' w'=>?_
 rintro ⟨ρ',hr',hh⟩
 rw [hr'.env] at hh
 cases e with
 | normal=>
  obtain ⟨v,h1,h2⟩:=D0 hh
  exact ⟨hr'.defers,v,h1,h2⟩
 | ret=>
  obtain ⟨v,h1,h2⟩:=D0 hh
  exact ⟨hr'.defers,v,h1,h2⟩
 | _=>exact hh.elim

def oZ (fn:Func):Code:=fn.body.getD .skip
def ready (fn:Func) (k:Nat):Bool:=fn.body.isSome && Nat.ble k fn.ntmps && BH fn.ntmps (oZ fn)
theorem qe {P:Program} {f:FuncId} {fn:Func} (an:An) (args:List Value) {w:World} {R:Ending->World->Prop} {p:Prop}
  (hm:P.follows .mixedOrders=true) (hf:P.funcs[f]?=some fn) (hr:ready fn args.length=true)
  (h:p=vc P (oZ fn) an (OT P fn.results.toList R) (ph 0 args fun _=>undef) w) (hp:p):Calls P f args.toArray w R:=by
 simp only [ready,bu] at hr
 obtain ⟨⟨h1,h2⟩,h3⟩:=hr
 refine OQ an hm hf (c:=oZ fn) ?_ rfl h2 h3 (h ▸ hp)
 unfold oZ
 cases hb:fn.body with
 | none=>rw [hb] at h1; cases h1
 | some c=>rfl
end
section
open Go Go.RowKit

abbrev ae:=Nat->Option Obj
def Sle (S S':ae):Prop:=∀ b o,S b=some o->S' b=some o
theorem Sle.refl (S:ae):Sle S S:=fun _ _ h=>h
theorem Sle.trans {S S' S'':ae} (h:Sle S S') (h':Sle S' S''):Sle S S'':=fun b o hb=>h' b o (h b o hb)

inductive Item where
 | blk (b:Nat) (o:Obj)
 | row (v:Value) (e:TypeId) (size n:Nat) (xs:List Value)
def Item.foot:Item->List Nat
 | .blk b _=>[b]
 | .row v ..=>v.ownBlock.toList
def Item.holds (w:World):Item->Prop
 | .blk b o=>w.heap[b]?=some o
 | .row v e size n xs=>w.ownsRow 0 e size v n xs
def bE (L:List Item):List Nat:=L.flatMap Item.foot

theorem Item.lt {w:World}:∀ {it:Item},it.holds w->∀ b∈it.foot,b<w.heap.size
 | .blk b o,h,c,hc=>by
  simp only [Item.foot,cd] at hc
  subst hc
  exact (YW.1 h).1
 | .row v e size n xs,h,c,hc=>by
  simp only [Item.foot,Option.mem_toList] at hc
  exact (World.ownsRow.lt h c hc).2
theorem Item.kept {w w':World}:∀ {it:Item},it.holds w->w.heap.size<=w'.heap.size->w'.os=w.os->w'.tape=w.tape->w'.output=w.output->
  (∀ b∈it.foot,w'.heap[b]?=w.heap[b]?)->it.holds w'
 | .blk b o,h,_,_,_,_,hk=>(hk b (by simp [Item.foot])).trans h
 | .row v e size n xs,h,_,_,_,_,hk=>by
  refine ⟨h.1,?_⟩
  rcases h.2 with hn|⟨g,cap,cur,rfl,hb,hgg,rest⟩
  ·exact .inl hn
  ·exact .inr ⟨g,cap,cur,rfl,hb,(hk g (by simp [Item.foot,Value.ownBlock])).trans hgg,rest⟩

structure Inv (w0:World) (X:List Nat) (L:List Item) (S:ae) (w:World):Prop where
 size:w0.heap.size<=w.heap.size
 os:w.os=w0.os
 tape:w.tape=w0.tape
 output:w.output=w0.output
 old:∀ b,b<w0.heap.size->b ∉ X->w.heap[b]?=w0.heap[b]?
 its:∀ it∈L,it.holds w
 nd:(bE L).Nodup
 new:∀ b∈bE L,b∈X ∨ w0.heap.size<=b
 pub:∀ b o,S b=some o->w.heap[b]?=some o/\b ∉ bE L

theorem pZ {L:List Item} {b:Nat}:b∈bE L↔∃ it∈L,b∈it.foot:=by simp [bE,List.mem_flatMap]
theorem bW (L M:List Item):bE (L++M)=bE L++bE M:=by simp [bE]
theorem Inv.lt {w0 w:World} {X:List Nat} {L:List Item} {S:ae} (h:Inv w0 X L S w) {b:Nat} (hb:b∈bE L):b<w.heap.size:=by
 obtain ⟨it,hm,hb⟩:=pZ.1 hb
 exact Item.lt (h.its it hm) b hb
theorem Inv.publt {w0 w:World} {X:List Nat} {L:List Item} {S:ae} (h:Inv w0 X L S w) {b:Nat} {o:Obj} (hb:S b=some o):b<w.heap.size:=
 (YW.1 (h.pub b o hb).1).1

theorem Inv.start {w:World} {L:List Item} {S:ae} (hi:∀ it∈L,it.holds w) (hn:(bE L).Nodup) (hp:∀ b o,S b=some o->w.heap[b]?=some o/\b ∉ bE L) :
  Inv w (bE L) L S w:=
 ⟨aW _,rfl,rfl,rfl,fun _ _ _=>rfl,hi,hn,fun _ h=>.inl h,hp⟩
theorem Inv.begin {w0 w:World} {X:List Nat} {L:List Item} {S:ae} (h:Inv w0 X L S w):Inv w (bE L) L S w:=Inv.start h.its h.nd h.pub

theorem WQ {L M:List Item} (hs:List.Sublist M L):List.Sublist (bE M) (bE L):=by
 induction hs with
 | slnil=>exact List.Sublist.refl _
 | cons a _ ih=>simp only [bE,rt] at *; exact ih.trans (ei _ _)
 | cons_cons a _ ih=>simp only [bE,rt] at *; exact List.Sublist.append_left ih _
theorem Vj {L M:List Item} (hs:List.Sublist M L) (h:(bE L).Nodup):(bE M).Nodup:=List.Nodup.sublist (WQ hs) h
theorem Inv.sub {w0 w:World} {X:List Nat} {L M:List Item} {S:ae} (h:Inv w0 X L S w) (hs:List.Sublist M L):Inv w0 X M S w:=
 have hm:∀ b,b∈bE M->b∈bE L:=fun b hb=>by
  obtain ⟨it,h1,h2⟩:=pZ.1 hb
  exact pZ.2 ⟨it,hs.subset h1,h2⟩
 ⟨h.size,h.os,h.tape,h.output,h.old,fun it hi=>h.its it (hs.subset hi),Vj hs h.nd,fun b hb=>h.new b (hm b hb),
  fun b o hb=>⟨(h.pub b o hb).1,fun hb'=>(h.pub b o hb).2 (hm b hb')⟩⟩
theorem Inv.nil {w0 w:World} {X:List Nat} {L:List Item} {S:ae} (h:Inv w0 X L S w):Inv w0 X [] S w:=h.sub (MI _)
def zR:List Bool->List Item->List Item
 | true::bs,x::xs=>x::zR bs xs
 | false::bs,_::xs=>zR bs xs
 | _,_=>[]
theorem Ba:∀ (bs:List Bool) (L:List Item),List.Sublist (zR bs L) L
 | true::bs,x::xs=>by simp only [zR]; exact (Ba bs xs).cons_cons x
 | false::bs,x::xs=>by simp only [zR]; exact (Ba bs xs).cons x
 | [],L=>by simp [zR]
 | true::_,[]=>by simp [zR]
 | false::_,[]=>by simp [zR]
theorem Inv.pick {w0 w:World} {X:List Nat} {L:List Item} {S:ae} (h:Inv w0 X L S w) (bs:List Bool):Inv w0 X (zR bs L) S w:=h.sub (Ba bs L)
theorem Inv.less {w0 w:World} {X:List Nat} {L:List Item} {S S':ae} (h:Inv w0 X L S w) (hs:Sle S' S):Inv w0 X L S' w:=
 { h with pub:=fun b o hb=>h.pub b o (hs b o hb) }
theorem Inv.perm {w0 w:World} {X:List Nat} {L M:List Item} {S:ae} (h:Inv w0 X L S w) (hp:List.Perm M L):Inv w0 X M S w:=by
 have hf:List.Perm (bE M) (bE L):=hp.flatMap_right _
 exact ⟨h.size,h.os,h.tape,h.output,h.old,fun it hi=>h.its it (hp.mem_iff.1 hi),hf.symm.nodup h.nd,fun b hb=>h.new b (hf.mem_iff.1 hb),
  fun b o hb=>⟨(h.pub b o hb).1,fun hb'=>(h.pub b o hb).2 (hf.mem_iff.1 hb')⟩⟩

theorem Inv.step {w0 w w':World} {X:List Nat} {A B:List Item} {S S':ae} (h:Inv w0 X (A++B) S w) {B':List Item} (hc:Inv w (bE B) B' S' w')
  (hx:∀ b o,S' b=some o->S b=some o ∨ b∈bE B ∨ w.heap.size<=b):Inv w0 X (A++B') S' w':=by
 have hnd:=h.nd
 rw [bW,rc] at hnd
 obtain ⟨nA,nB,dAB⟩:=hnd
 have keptA:∀ b∈bE A,w'.heap[b]?=w.heap[b]?:=fun b hb=>
  hc.old b (h.lt (by rw [bW]; exact dy _ hb)) fun hb'=>dAB b hb b hb' rfl
 refine ⟨gX h.size hc.size,hc.os.trans h.os,hc.tape.trans h.tape,hc.output.trans h.output,fun b hb hbX=>?_,fun it hi=>?_,?_,fun b hb=>?_,fun b o hb=>?_⟩
 ·have hnB:b ∉ bE B:=fun hb'=>by
   rcases h.new b (by rw [bW]; exact iA _ hb') with h1|h1
   ·exact hbX h1
   ·omega
  rw [hc.old b (Nat.lt_of_lt_of_le hb h.size) hnB]
  exact h.old b hb hbX
 ·rcases bO.1 hi with hi|hi
  ·exact Item.kept (h.its it (dy _ hi)) hc.size hc.os hc.tape hc.output fun b hb=>keptA b (pZ.2 ⟨it,hi,hb⟩)
  ·exact hc.its it hi
 ·rw [bW,rc]
  refine ⟨nA,hc.nd,fun a ha b hb e=>?_⟩
  subst e
  have hlt:=h.lt (b:=a) (by rw [bW]; exact dy _ ha)
  rcases hc.new a hb with h1|h1
  ·exact dAB a ha a h1 rfl
  ·omega
 ·rw [bW] at hb
  rcases bO.1 hb with hb|hb
  ·exact h.new b (by rw [bW]; exact dy _ hb)
  ·rcases hc.new b hb with h1|h1
   ·exact h.new b (by rw [bW]; exact iA _ h1)
   ·exact .inr (gX h.size h1)
 ·refine ⟨(hc.pub b o hb).1,fun hm=>?_⟩
  rw [bW] at hm
  rcases bO.1 hm with hm|hm
  ·rcases hx b o hb with h1|h1|h1
   ·exact (h.pub b o h1).2 (by rw [bW]; exact dy _ hm)
   ·exact dAB b hm b h1 rfl
   ·have:=h.lt (b:=b) (by rw [bW]; exact dy _ hm)
    omega
  ·exact (hc.pub b o hb).2 hm

structure Grow (w w':World):Prop where
 size:w.heap.size<=w'.heap.size
 os:w'.os=w.os
 tape:w'.tape=w.tape
 output:w'.output=w.output
 old:∀ b,b<w.heap.size->w'.heap[b]?=w.heap[b]?
theorem Grow.refl (w:World):Grow w w:=⟨aW _,rfl,rfl,rfl,fun _ _=>rfl⟩
theorem Inv.grow {w0 w w':World} {X:List Nat} {L:List Item} {S:ae} (h:Inv w0 X L S w) (hg:Grow w w'):Inv w0 X L S w':=by
 have:Inv w (bE []) [] S w':=⟨hg.size,hg.os,hg.tape,hg.output,fun b hb _=>hg.old b hb,by simp,by simp [bE],by simp [bE],
  fun b o hb=>⟨(hg.old b (h.publt hb)).trans (h.pub b o hb).1,by simp [bE]⟩⟩
 have h2:=Inv.step (A:=L) (B:=[]) (by simpa using h) this (fun b o hb=>.inl hb)
 simpa using h2
theorem Inv.addItem {w0 w w':World} {X:List Nat} {L:List Item} {S:ae} (h:Inv w0 X L S w) (hg:Grow w w') {it:Item} (hi:it.holds w')
  (hf:∀ b∈it.foot,w.heap.size<=b) (hn:it.foot.Nodup):Inv w0 X (L++[it]) S w':=by
 have hfe:bE [it]=it.foot:=by simp [bE]
 have:Inv w (bE []) [it] S w':=⟨hg.size,hg.os,hg.tape,hg.output,fun b hb _=>hg.old b hb,by simpa using hi,by rw [hfe]; exact hn,
  fun b hb=>.inr (hf b (by rwa [hfe] at hb)),fun b o hb=>⟨(hg.old b (h.publt hb)).trans (h.pub b o hb).1,fun hm=>by
   have:=h.publt hb
   have:=hf b (by rwa [hfe] at hm)
   omega⟩⟩
 exact Inv.step (A:=L) (B:=[]) (by simpa using h) this (fun b o hb=>.inl hb)
theorem Inv.alloc {w0 w:World} {X:List Nat} {L:List Item} {S:ae} (h:Inv w0 X L S w) (o:Obj) :
  Inv w0 X (L++[.blk w.heap.size o]) S { w with heap:=w.heap.push o }:=
 h.addItem (w':={ w with heap:=w.heap.push o }) (it:=.blk w.heap.size o) ⟨by simp,rfl,rfl,rfl,fun b hb=>by simp [Array.getElem?_push,Nat.ne_of_lt hb]⟩ (by simp [Item.holds]) (by simp [Item.foot]) (by simp [Item.foot])
theorem Inv.draw {w0 w:World} {X:List Nat} {L:List Item} {S:ae} (h:Inv w0 X L S w):Inv w0 X L S { w with drawn:=w.drawn+1 }:=
 h.grow ⟨aW _,rfl,rfl,rfl,fun _ _=>rfl⟩

theorem BP {L:List Item} {i:Nat} {it:Item} (hi:L[i]?=some it) (it':Item) :
  L=L.take i++it::L.drop (i+1)/\L.set i it'=L.take i++it'::L.drop (i+1):=by
 have hlt:i<L.length:=(gx.1 hi).1
 have he:L[i]=it:=(gx.1 hi).2
 constructor
 ·conv=>lhs; rw [<- xd i L,cU hlt,he]
 ·rw [GW,ai hlt]
theorem Inv.stepAt {w0 w w':World} {X:List Nat} {L:List Item} {S S':ae} (h:Inv w0 X L S w) {i:Nat} {it it':Item} (hi:L[i]?=some it)
  {B:List Item} (hc:Inv w (bE [it]) (it'::B) S' w')
  (hx:∀ b o,S' b=some o->S b=some o ∨ b∈bE [it] ∨ w.heap.size<=b):Inv w0 X (L.set i it'++B) S' w':=by
 obtain ⟨h1,h2⟩:=BP hi it'
 have p1:List.Perm ((L.take i++L.drop (i+1))++[it]) L:=by
  conv=>rhs; rw [h1]
  rw [eK]
  exact DZ _ cu
 have p2:List.Perm (L.set i it'++B) ((L.take i++L.drop (i+1))++(it'::B)):=by
  rw [h2,eK,eK]
  refine DZ _ ?_
  rw [iR]
  exact zal125.symm
 exact (Inv.step (h.perm p1) hc hx).perm p2
theorem Inv.change {w0 w w':World} {X:List Nat} {L:List Item} {S:ae} (h:Inv w0 X L S w) {i:Nat} {it it':Item} (hi:L[i]?=some it)
  (hsz:w.heap.size<=w'.heap.size) (hos:w'.os=w.os) (htp:w'.tape=w.tape) (hou:w'.output=w.output)
  (hold:∀ b,b<w.heap.size->b ∉ it.foot->w'.heap[b]?=w.heap[b]?) (hh:it'.holds w') (hf:∀ b∈it'.foot,b∈it.foot ∨ w.heap.size<=b) (hn:it'.foot.Nodup) :
  Inv w0 X (L.set i it') S w':=by
 have e1:bE [it]=it.foot:=by simp [bE]
 have e2:bE [it']=it'.foot:=by simp [bE]
 have hm:it∈L:=cz hi
 have hnot:∀ b o,S b=some o->b ∉ it.foot:=fun b o hb hb'=>(h.pub b o hb).2 (pZ.2 ⟨it,hm,hb'⟩)
 have hc:Inv w (bE [it]) [it'] S w':=by
  refine ⟨hsz,hos,htp,hou,fun b hb hb'=>hold b hb (by rwa [e1] at hb'),by simpa using hh,by rw [e2]; exact hn,fun b hb=>?_,fun b o hb=>⟨?_,fun hb'=>?_⟩⟩
  ·rw [e2] at hb; rw [e1]; exact hf b hb
  ·exact (hold b (h.publt hb) (hnot b o hb)).trans (h.pub b o hb).1
  ·rw [e2] at hb'
   have:=h.publt hb
   rcases hf b hb' with h1|h1
   ·exact hnot b o hb h1
   ·omega
 have:=h.stepAt hi (B:=[]) hc fun b o hb=>.inl hb
 simpa using this
theorem Inv.setBlk {w0 w:World} {X:List Nat} {L:List Item} {S:ae} (h:Inv w0 X L S w) {i b:Nat} {o:Obj} (hi:L[i]?=some (.blk b o)) (o':Obj) {w':World}
  (hw:w'={ w with heap:=w.heap.setIfInBounds b o' }):Inv w0 X (L.set i (.blk b o')) S w':=by
 have hm:=h.its _ (cz hi)
 have hlt:b<w.heap.size:=Item.lt hm b (by simp [Item.foot])
 subst hw
 refine h.change hi (by simp) rfl rfl rfl (fun c _ hc'=>?_) ?_ (fun c hc=>.inl hc) (by simp [Item.foot])
 ·simp only [Item.foot,cd] at hc'
  simp only []
  rw [Zf (fun e=>hc' e.symm)]
 ·simp [Item.holds,hlt]

def mS (S:ae) (b:Nat) (o:Obj):ae:=fun c=>if c=b then some o else S c
theorem Inv.publish {w0 w:World} {X:List Nat} {L:List Item} {S:ae} (h:Inv w0 X L S w) {i b:Nat} {o:Obj} (hi:L[i]?=some (.blk b o)) :
  Inv w0 X (L.eraseIdx i) (mS S b o) w/\Sle S (mS S b o):=by
 have hm:=h.its _ (cz hi)
 have hsub:List.Sublist (L.eraseIdx i) L:=List.eraseIdx_sublist ..
 have h':=h.sub hsub
 have hnb:b ∉ bE (L.eraseIdx i):=by
  obtain ⟨h1,_⟩:=BP hi (.blk b o)
  have hnd:=h.nd
  have hlt:i<L.length:=(gx.1 hi).1
  have p:List.Perm L (Item.blk b o::L.eraseIdx i):=by
   rw [Xm]
   conv=>lhs; rw [h1]
   exact zal125
  have:(bE (Item.blk b o::L.eraseIdx i)).Nodup:=(p.flatMap_right Item.foot).nodup hnd
  simp only [bE,rt,Item.foot,iR,rg,Be] at this
  exact this.1
 refine ⟨⟨h'.size,h'.os,h'.tape,h'.output,h'.old,h'.its,h'.nd,h'.new,fun c o' hc=>?_⟩,fun c o' hc=>?_⟩
 ·simp only [mS] at hc
  split at hc
  ·rename_i e; subst e
   simp only [bg] at hc
   subst hc
   exact ⟨hm,hnb⟩
  ·exact h'.pub c o' hc
 ·simp only [mS]
  split
  ·rename_i e; subst e
   exact absurd (pZ.2 ⟨_,cz hi,by simp [Item.foot]⟩) (h.pub _ _ hc).2
  ·exact hc

def Ext (n:Nat) (Y:List Nat) (S S':ae):Prop:=Sle S S'/\∀ b o,S' b=some o->S b=some o ∨ b∈Y ∨ n<=b
theorem Ext.refl (n:Nat) (Y:List Nat) (S:ae):Ext n Y S S:=⟨Sle.refl S,fun _ _ h=>.inl h⟩
def Tri (P:Program) (f:FuncId) (args:List Value) (I:List Item) (S:ae) (Post:Value->List Item->ae->Prop):Prop:=
 ∀ w:World,Inv w (bE I) I S w->Calls P f args.toArray w fun e w'=>∃ v I' S',e=.returned v/\Inv w (bE I) I' S' w'/\Ext w.heap.size (bE I) S S'/\Post v I' S'
def Pure (P:Program) (f:FuncId) (args:List Value) (S:ae) (r:Value):Prop:=
 ∀ w:World,Inv w [] [] S w->Calls P f args.toArray w fun e w'=>e=.returned r/\Inv w [] [] S w'

theorem Run.callP {P:Program} {f:FuncId} {fn:Func} {args:List Value} {w:World} {K:Value->World->Prop} (hf:P.funcs[f]?=some fn) (hn:(fn.name == "runtime.NumGoroutine" || fn.body.isNone)=false)
  (h:Calls P f args.toArray w fun
   | .returned v,w'=>K v w'
   | _,_=>False):Run P (eM (.func (.func f) #[] #[]) args) w K:=by
 simp only [KU] at hn
 have h1:¬ fn.name = "runtime.NumGoroutine" := by simpa using hn.1
 have h2:¬ fn.body=none:=fun e=>by rw [e] at hn; simp at hn
 have e:(eM (.func (.func f) #[] #[]) args).run P w=.ok (.enter f args.toArray) w:=by
  simp [eM,Deferred.ofValue,invoke,callFunc,hf,h1,h2]
 unfold Run
 rw [e]
 exact h

theorem Run.call {P:Program} {f:FuncId} {fn:Func} {args:List Value} {w w0:World} {X:List Nat} {A I:List Item} {S:ae} {Post:Value->List Item->ae->Prop} {K:Value->World->Prop}
  (hf:P.funcs[f]?=some fn) (hn:(fn.name == "runtime.NumGoroutine" || fn.body.isNone)=false) (h:Inv w0 X (A++I) S w) (hc:Tri P f args I S Post)
  (hk:∀ v I' S' w',Post v I' S'->Sle S S'->Inv w0 X (A++I') S' w'->K v w'):Run P (eM (.func (.func f) #[] #[]) args) w K:=by
 refine Run.callP hf hn ((hc w (h.sub (ei A I)).begin).mono ?_)
 rintro e w' ⟨v,I',S',rfl,hI,hE,hP⟩
 exact hk v I' S' w' hP hE.1 (Inv.step h hI hE.2)
theorem Run.callPure {P:Program} {f:FuncId} {fn:Func} {args:List Value} {w w0:World} {X:List Nat} {L:List Item} {S:ae} {r:Value} {K:Value->World->Prop}
  (hf:P.funcs[f]?=some fn) (hn:(fn.name == "runtime.NumGoroutine" || fn.body.isNone)=false) (h:Inv w0 X L S w) (hc:Pure P f args S r)
  (hk:∀ w',Inv w0 X L S w'->K r w'):Run P (eM (.func (.func f) #[] #[]) args) w K:=by
 refine Run.callP hf hn ((hc w h.nil.begin).mono ?_)
 rintro e w' ⟨rfl,hI⟩
 have h2:=Inv.step (A:=L) (B:=[]) (by simpa using h) hI fun b o hb=>.inl hb
 exact hk w' (by simpa using h2)
theorem Pure.less {P:Program} {f:FuncId} {args:List Value} {S S':ae} {r:Value} (h:Pure P f args S r) (hs:Sle S S'):Pure P f args S' r:=by
 intro w hI
 refine (h w (hI.less hs)).mono ?_
 rintro e w' ⟨he,h2⟩
 refine ⟨he,h2.size,h2.os,h2.tape,h2.output,h2.old,by simp,by simp [bE],by simp [bE],fun b o hb=>⟨?_,by simp [bE]⟩⟩
 rw [h2.old b (hI.publt hb) (by simp)]
 exact (hI.pub b o hb).1
end
section
open Go Go.RowKit

theorem Run.of {P:Program} {s:Sem Next} {w w':World} {v:Value} {K:Value->World->Prop} (h:s.run P w=.ok (.value v) w') (hk:K v w'):Run P s w K:=by
 unfold Run; rw [h]; exact hk
theorem Run.ofSkip {P:Program} {s:Sem Next} {w w':World} {K:Value->World->Prop} (h:s.run P w=.ok .skip w') (hk:K undef w'):Run P s w K:=by
 unfold Run; rw [h]; exact hk

def sa (P:Program) (T:TypeId):Option Nat:=match P.underlying T with
 | some (.struct _)|some (.array _ _)=>(P.info? T).map (·.size)
 | _=>none
def jI (P:Program) (T:TypeId):Bool:=match P.underlying T with
 | some (.struct _)|some (.array _ _)=>false
 | some _=>match P.info? T with
  | some i=>Nat.beq i.size 1
  | none=>false
 | none=>false
def bG (P:Program) (T:TypeId) (f:Nat):Option Nat:=match P.underlying T with
 | some (.struct fs)=>match fs[f]? with
  | some fd=>match P.info? fd.type with
   | some i=>match i.size with
    | 0=>none
    | _+1=>some fd.offset
   | none=>none
  | none=>none
 | _=>none
def cG (P:Program) (T:TypeId):Option (TypeId × Nat):=match P.underlying T with
 | some (.slice e)=>(P.info? e).map fun i=>(e,i.size)
 | _=>none
def fL (P:Program) (T:TypeId):Option Value:=match P.info? T with
 | some i=>i.zero
 | none=>none

section
variable {P:Program} {w:World}
theorem mr {T:TypeId} {i:TypeInfo} (h:P.info? T=some i):(sizeOf T).run P w=.ok i.size w:=by
 simp [sizeOf,typeInfo,h]
theorem Wg {T:TypeId} {z:Value} (h:fL P T=some z):(zeroValue T).run P w=.ok z w:=by
 unfold fL at h
 split at h
 ·rename_i i hi; simp [zeroValue,typeInfo,hi,h]
 ·cases h
theorem Kq {T:TypeId} {n:Nat} (h:sa P T=some n):(isAgg T).run P w=.ok true w/\(sizeOf T).run P w=.ok n w:=by
 unfold sa at h
 split at h
 ·rename_i fs hu
  cases hi:P.info? T with
  | none=>rw [hi] at h; cases h
  | some i=>
   rw [hi] at h
   simp only [sw,bg] at h
   subst h
   exact ⟨by simp [isAgg,run_underlying hu],mr hi⟩
 ·rename_i e m hu
  cases hi:P.info? T with
  | none=>rw [hi] at h; cases h
  | some i=>
   rw [hi] at h
   simp only [sw,bg] at h
   subst h
   exact ⟨by simp [isAgg,run_underlying hu],mr hi⟩
 ·cases h
theorem Cy {T:TypeId} (h:jI P T=true):(isAgg T).run P w=.ok false w/\(sizeOf T).run P w=.ok 1 w:=by
 unfold jI at h
 cases hu:P.underlying T with
 | none=>rw [hu] at h; cases h
 | some d=>
  rw [hu] at h
  cases hi:P.info? T with
  | none=>rw [hi] at h; cases d <;> cases h
  | some i=>
   rw [hi] at h
   have hs:i.size=1:=by cases d <;> simp at h <;> exact h
   refine ⟨?_,by rw [mr hi,hs]⟩
   cases d <;> simp [isAgg,run_underlying hu] at h ⊢

theorem gn (b o n:Nat):(⟨b,o,none⟩:Addr).add n=⟨b,o+n,none⟩:=by unfold Addr.add; split <;> simp_all

theorem Dq {T:TypeId} {n b o:Nat} {cs:List Value} (h:sa P T=some n) (hl:cs.length=n) (hc:∀ j v,cs[j]?=some v->w.cell? ⟨b,o+j,none⟩=some v) :
  (loadVar T ⟨b,o,none⟩).run P w=.ok (.agg cs.toArray) w:=by
 obtain ⟨h1,h2⟩:=Kq (w:=w) h
 have h3:=run_loadCells_list (P:=P) (w:=w) ⟨b,o,none⟩ cs (fun j v hj=>by rw [gn]; exact hc j v hj)
 rw [hl] at h3
 simp [loadVar,h1,h2,h3]
theorem QZ {T:TypeId} {b o:Nat} {v:Value} (h:jI P T=true) (hc:w.cell? ⟨b,o,none⟩=some v):(loadVar T ⟨b,o,none⟩).run P w=.ok v w:=by
 simp [loadVar,(Cy (w:=w) h).1,hc]
end

section mem
variable {P:Program} {w w0:World} {X:List Nat} {L:List Item} {S:ae} {K:Value->World->Prop}

theorem Inv.cellS (h:Inv w0 X L S w) {b o:Nat} {c:Array Value} {E:TypeId} {fz:Nat × Nat} (hs:S b=some (.cells c E fz)):w.cell? ⟨b,o,none⟩=c[o]?:=by
 simp [World.cell?,(h.pub b _ hs).1]
theorem Inv.cellL (h:Inv w0 X L S w) {i b o:Nat} {c:Array Value} {E:TypeId} {fz:Nat × Nat} (hi:L[i]?=some (.blk b (.cells c E fz))):w.cell? ⟨b,o,none⟩=c[o]?:=by
 have:=h.its _ (cz hi)
 simp only [Item.holds] at this
 simp [World.cell?,this]

theorem bq (h:Inv w0 X L S w) {T ty:TypeId} {v:Value} (hk:∀ b w',Inv w0 X (L++[.blk b (.cells v.cells T)]) S w'->K (.pointer (some ⟨b,0,none⟩)) w') :
  Run P (sOp (.box T (.const v)) ty) w K:=by
 refine Run.of (v:=.pointer (some ⟨w.heap.size,0,none⟩)) ?_ (hk _ _ (h.alloc _))
 simp [sOp,execOp,Instr.box,newVar,newRow,newObj,ev0,evE,Sem.run]
theorem aT (h:Inv w0 X L S w) {T ty:TypeId} {z:Value} (hz:fL P T=some z) (hk:∀ b w',Inv w0 X (L++[.blk b (.cells z.cells T)]) S w'->K (.pointer (some ⟨b,0,none⟩)) w') :
  Run P (sOp (.alloc T) ty) w K:=by
 refine Run.of (v:=.pointer (some ⟨w.heap.size,0,none⟩)) ?_ (hk _ _ (h.alloc _))
 simp [sOp,execOp,Instr.alloc,newVar,newRow,newObj,Wg hz,Sem.run]
theorem au {T ty:TypeId} {f b o k:Nat} (hf:bG P T f=some k) (hk:K (.pointer (some ⟨b,o+k,none⟩)) w) :
  Run P (sOp (.fieldAddr T (.const (.pointer (some ⟨b,o,none⟩))) f) ty) w K:=by
 refine Run.of ?_ hk
 unfold bG at hf
 split at hf <;> try cases hf
 rename_i fs hu
 split at hf <;> try cases hf
 rename_i fd hfd
 split at hf <;> try cases hf
 rename_i i hi
 split at hf <;> try cases hf
 rename_i n hn
 have hne:¬ i.size=0:=by omega
 simp [sOp,execOp,Instr.fieldAt,run_underlying hu,hfd,Instr.sureAddr,ev0,evE,fieldPlace,mr hi,hne,gn]
theorem ct {T ty:TypeId} {b o:Nat} {v:Value} (hT:jI P T=true) (hc:w.cell? ⟨b,o,none⟩=some v) (hk:K v w) :
  Run P (sOp (.load T (.const (.pointer (some ⟨b,o,none⟩)))) ty) w K:=by
 refine Run.of ?_ hk
 simp [sOp,execOp,Instr.loadAt,Instr.sureAddr,ev0,evE,QZ hT hc]
theorem bL {T ty:TypeId} {b o n:Nat} {cs:List Value} (hT:sa P T=some n) (hl:cs.length=n) (hc:∀ j v,cs[j]?=some v->w.cell? ⟨b,o+j,none⟩=some v) (hk:K (.agg cs.toArray) w) :
  Run P (sOp (.load T (.const (.pointer (some ⟨b,o,none⟩)))) ty) w K:=by
 refine Run.of ?_ hk
 simp [sOp,execOp,Instr.loadAt,Instr.sureAddr,ev0,evE,Dq hT hl hc]
theorem aN (h:Inv w0 X L S w) {T ty:TypeId} (i:Nat) {b o:Nat} {c:Array Value} {E:TypeId} {v:Value} (hT:jI P T=true) (hi:L[i]?=some (.blk b (.cells c E))) (hc:c[o]?=some v) (hk:K v w) :
  Run P (sOp (.load T (.const (.pointer (some ⟨b,o,none⟩)))) ty) w K:=
 ct hT ((h.cellL hi).trans hc) hk
theorem di (h:Inv w0 X L S w) {T ty:TypeId} (i:Nat) {b o n:Nat} {c:Array Value} {E:TypeId} (cs:List Value) (hT:sa P T=some n) (hi:L[i]?=some (.blk b (.cells c E))) (hl:cs.length=n)
  (hc:∀ j v,cs[j]?=some v->c[o+j]?=some v) (hk:K (.agg cs.toArray) w):Run P (sOp (.load T (.const (.pointer (some ⟨b,o,none⟩)))) ty) w K:=
 bL hT hl (fun j v hj=>(h.cellL hi).trans (hc j v hj)) hk
theorem av (h:Inv w0 X L S w) {T ty:TypeId} (i:Nat) {b n:Nat} {c:Array Value} {E:TypeId} (hT:sa P T=some n) (hi:L[i]?=some (.blk b (.cells c E))) (hl:c.size=n)
  (hk:K (.agg c) w):Run P (sOp (.load T (.const (.pointer (some ⟨b,0,none⟩)))) ty) w K:=by
 refine di h i (o:=0) c.toList hT hi (by simpa using hl) (fun j v hj=>by simpa using hj) ?_
 simpa using hk
theorem bJ (h:Inv w0 X L S w) {T:TypeId} {K:Value->Prop} (i:Nat) {b n:Nat} {c:Array Value} {E:TypeId} (hT:sa P T=some n) (hi:L[i]?=some (.blk b (.cells c E))) (hl:c.size=n)
  (hk:K (.agg c)):aO P T (.pointer (some ⟨b,0,none⟩)) w K:=by
 unfold aO
 refine ⟨_,?_,hk⟩
 have:=Dq (w:=w) (P:=P) (b:=b) (o:=0) (cs:=c.toList) hT (by simpa using hl) (fun j v hj=>by
  rw [h.cellL hi]; simpa using hj)
 simpa [asAddr] using this

def bn (c:Array Value) (o:Nat) (vs:List Value):Array Value:=(c.toList.take o++vs++c.toList.drop (o+vs.length)).toArray
theorem JW {w:World} {g:Nat} {c cs:Array Value} {E:TypeId} {fz:Nat × Nat} (hg:w.heap[g]?=some (.cells c E fz)) :
  w.setRow g cs={ w with heap:=w.heap.setIfInBounds g (.cells cs E fz) }:=by
 have hlt:=(YW.1 hg).1
 have he:=(YW.1 hg).2
 unfold World.setRow
 congr 1
 apply Array.ext_getElem?
 intro i
 by_cases e:g=i
 ·subst e
  rw [Array.getElem?_modify,ai rfl,hg]
  simp [hlt]
 ·rw [Zf e,Array.getElem?_modify,ah e]
theorem cW (h:Inv w0 X L S w) {T ty:TypeId} (i:Nat) {b o:Nat} {c:Array Value} {E:TypeId} {v:Value} {n:Nat} (hn:v.cells.size=n) (hT:(jI P T && Nat.beq n 1 || sa P T == some n)=true)
  (hi:L[i]?=some (.blk b (.cells c E))) (hfit:o+n<=c.size) (h1:∀ u∈v.cells.toList,u.oneCell'=true)
  (hk:∀ w',Inv w0 X (L.set i (.blk b (.cells (bn c o v.cells.toList) E))) S w'->K undef w') :
  Run P (sOp (.store T (.const (.pointer (some ⟨b,o,none⟩))) (.const v)) ty) w K:=by
 have hg:=h.its _ (cz hi)
 simp only [Item.holds] at hg
 have hsz:(sizeOf T).run P w=.ok n w:=by
  simp only [jR,bu,beq_iff_eq] at hT
  rcases hT with ⟨h2,h3⟩|h2
  ·rw [(Cy (w:=w) h2).2,Ni h3]
  ·exact (Kq (w:=w) h2).2
 have hst:=run_storeCells_at P b o E v.cells.toList 0 c w hg (by simpa [hn] using hfit) h1
 refine Run.ofSkip (w':=w.setRow b (bn c o v.cells.toList)) ?_ (hk _ (h.setBlk hi _ (JW hg)))
 simp only [wV] at hst
 simp [sOp,execOp,Instr.storeAt,Instr.sureAddr,ev0,evE,storeVar,hsz,hn,hst,bn]
theorem aE {T ty E:TypeId} {k b o len cap i:Nat} (hT:cG P T=some (E,k)) (hlt:i<len) (hk:K (.pointer (some ⟨b,o+i * k,none⟩)) w) :
  Run P (sOp (.indexAddr T (.const (.slice (some ⟨b,o,none⟩) len cap)) (.const (.int .i64 i))) ty) w K:=by
 refine Run.of ?_ hk
 unfold cG at hT
 split at hT <;> try cases hT
 rename_i e hu
 cases hi:P.info? e with
 | none=>rw [hi] at hT; cases hT
 | some inf=>
  rw [hi] at hT
  simp only [sw,bg,cT] at hT
  obtain ⟨rfl,rfl⟩:=hT
  have h1:(0:Int)<=(i:Int)/\(i:Int)<(len:Int):=⟨by omega,by omega⟩
  simp [sOp,execOp,Instr.indexAt,asIntOf,run_underlying hu,ev0,evE,mr hi,hlt,gn]
end mem

section pure
variable {P:Program} {w:World} {K:Value->World->Prop}
theorem aB {ty:TypeId} {a:Addr} (hk:K (.pointer (some a)) w):Run P (sOp (.nilCheck (.const (.pointer (some a)))) ty) w K:=
 Run.of (by simp [sOp,execOp,ev0,evE]) hk
theorem xP {ty:TypeId} {c:Bool} {a b:Value} (hk:K (if c=true then a else b) w):Run P (sOp (.pick (.const (.bool c)) (.const a) (.const b)) ty) w K:=
 Run.of (by simp [sOp,execOp,ev0,evE,asBool]) hk
theorem bQ {T ty:TypeId} {c:Bool} (hk:K (.bool (!c)) w):Run P (sOp (.unOp .not T (.const (.bool c))) ty) w K:=
 Run.of (by simp [sOp,execOp,ev0,evE,Op.unary]) hk
theorem ar {ty:TypeId} {vs:Array Value} {i:Nat} {v:Value} (hi:vs[i]?=some v) (hk:K v w):Run P (sOp (.extract (.const (.tuple vs)) i) ty) w K:=
 Run.of (by simp [sOp,execOp,ev0,evE,Instr.extract,hi]) hk
theorem ia {fn:Fn} {a b:List Value} (hk:K (.func fn a.toArray b.toArray) w):Run P (eY fn a b) w K:=
 Run.of (by simp [eY,Instr.makeFunc]) hk
theorem db (op:BinOp) (T:TypeId) (x y:Operand) (k k':IntKind) (a b:Int):(eqGuard op T x y (.int k a) (.int k' b)).run P w=.ok () w:=by
 unfold eqGuard; simp
theorem kI (op:BinOp) (T:TypeId) (x y:Operand) (a b:ByteArray):(eqGuard op T x y (.string a) (.string b)).run P w=.ok () w:=by
 unfold eqGuard; simp
theorem z3 (op:BinOp) (T:TypeId) (x y:Operand) (a b:Bool):(eqGuard op T x y (.bool a) (.bool b)).run P w=.ok () w:=by
 unfold eqGuard; simp
theorem bp {T:TypeId} {cx cy:Bool} {a b:Int} (hr:-9223372036854775808<=a+b/\a+b<=9223372036854775807) (hk:K (.int .i64 (a+b)) w):Run P (cK .add T cx cy (.int .i64 a) (.int .i64 b)) w K:=
 Run.of (by simp [cK,db,binOp,Op.intArith,IntWalk.i64_in _ hr]) hk
theorem mx {T:TypeId} {cx cy:Bool} {a b:Int} (hr:-9223372036854775808<=a - b/\a - b<=9223372036854775807) (hk:K (.int .i64 (a - b)) w):Run P (cK .sub T cx cy (.int .i64 a) (.int .i64 b)) w K:=
 Run.of (by simp [cK,db,binOp,Op.intArith,IntWalk.i64_in _ hr]) hk
theorem bH {T:TypeId} {cx cy:Bool} {k:IntKind} {a b:Int} (hk:K (.bool (decide (a<b))) w):Run P (cK .lss T cx cy (.int k a) (.int k b)) w K:=
 Run.of (by simp [cK,db,binOp,Op.intCmp]) hk
theorem gy {T:TypeId} {cx cy:Bool} {k:IntKind} {a b:Int} (hk:K (.bool (decide (a<=b))) w):Run P (cK .leq T cx cy (.int k a) (.int k b)) w K:=
 Run.of (by simp [cK,db,binOp,Op.intCmp]) hk
theorem dA {T:TypeId} {cx cy:Bool} {k:IntKind} {a b:Int} (hk:K (.bool (decide (b<a))) w):Run P (cK .gtr T cx cy (.int k a) (.int k b)) w K:=
 Run.of (by simp [cK,db,binOp,Op.intCmp]) hk
theorem jS {T:TypeId} {cx cy:Bool} {k:IntKind} {a b:Int} (hk:K (.bool (decide (b<=a))) w):Run P (cK .geq T cx cy (.int k a) (.int k b)) w K:=
 Run.of (by simp [cK,db,binOp,Op.intCmp]) hk
theorem bl {T:TypeId} {cx cy:Bool} {k:IntKind} {a b:Int} (hk:K (.bool (decide (a=b))) w):Run P (cK .eql T cx cy (.int k a) (.int k b)) w K:=
 Run.of (by simp [cK,db,binOp,Op.intCmp]; rfl) hk
theorem ef {T:TypeId} {cx cy:Bool} {k:IntKind} {a b:Int} (hk:K (.bool (!decide (a=b))) w):Run P (cK .neq T cx cy (.int k a) (.int k b)) w K:=
 Run.of (by simp [cK,db,binOp,Op.intCmp]; rfl) hk
theorem P6 (a:ByteArray):∀ (n i:Nat) (r:List UInt8),a.size - i=n->ByteArray.toList.loop a i r=r.reverse++a.data.toList.drop i:=by
 intro n
 induction n with
 | zero=>
  intro i r hn
  unfold ByteArray.toList.loop
  have h1:¬ i<a.size:=by omega
  have h2:a.data.toList.length<=i:=by
   have e:a.data.toList.length=a.size:=by rw [Og]; rfl
   omega
  rw [ah h1,jT h2,dh]
 | succ n ih=>
  intro i r hn
  unfold ByteArray.toList.loop
  have h1:i<a.size:=by omega
  have h2:i<a.data.toList.length:=by
   have e:a.data.toList.length=a.size:=by rw [Og]; rfl
   omega
  rw [ai h1,ih (i+1) _ (by omega),cU h2]
  have h4:i<a.data.size:=by simpa using h2
  have h3:a.get! i=a.data.toList[i]:=by
   show a.data[i]! = _
   rw [getElem!_pos a.data i h4,Array.getElem_toList]
  rw [h3,List.reverse_cons,eK]
  rfl
theorem z1 (a:ByteArray):a.toList=a.data.toList:=by
 unfold ByteArray.toList
 rw [P6 a _ 0 [] rfl]
 rfl
theorem sv (a b:ByteArray):(a.toList == b.toList)=decide (a=b):=by
 rw [z1,z1,mf]
 simp only [beq_iff_eq,bk]
 constructor
 ·intro h
  cases a; cases b
  simp only [ByteArray.mk.injEq]
  exact F4.1 h
 ·rintro rfl; rfl
theorem bS {T:TypeId} {cx cy:Bool} {a b:ByteArray} (hk:K (.bool (decide (a=b))) w):Run P (cK .eql T cx cy (.string a) (.string b)) w K:=
 Run.of (by simp only [cK,binOp,Op.stringOp,Sem.run_bind,kI,Result.andThen_ok,Sem.run_pure,sv]) hk
theorem xW {T:TypeId} {cx cy:Bool} {a b:ByteArray} (hk:K (.bool (!decide (a=b))) w):Run P (cK .neq T cx cy (.string a) (.string b)) w K:=
 Run.of (by simp only [cK,binOp,Op.stringOp,Sem.run_bind,kI,Result.andThen_ok,Sem.run_pure,sv]) hk
theorem VQ {T:TypeId} {cx cy:Bool} {a b:Bool} (hu:P.underlying T=some .bool) (hk:K (.bool (!(a == b))) w):Run P (cK .neq T cx cy (.bool a) (.bool b)) w K:=
 Run.of (by
  have he:(Op.equal T (.bool a) (.bool b)).run P w=.ok (a == b) w:=by
   rw [Op.equal,Op.maxDepth,Op.equalIn.eq_def]
   simp [run_underlying hu]
  simp only [cK,binOp,Sem.run_bind,z3,Result.andThen_ok,he,Sem.run_pure]) hk
theorem mj {T ty:TypeId} {cs:List Bool} {s:ByteArray} (hu:P.underlying T=some .string) (hk:K (.int .i64 s.size) w):Run P (bM .len #[T] ty cs [.string s]) w K:=
 Run.of (by simp [bM,builtin,Builtin.len_,run_underlying hu,goInt]) hk
theorem eV {T ty:TypeId} {cs:List Bool} {a:Option Addr} {n c:Nat} {Ek:TypeId × Nat} (hu:cG P T=some Ek) (hk:K (.int .i64 n) w):Run P (bM .len #[T] ty cs [.slice a n c]) w K:=by
 refine Run.of ?_ hk
 unfold cG at hu
 split at hu <;> try cases hu
 rename_i e h1
 simp [bM,builtin,Builtin.len_,run_underlying h1,goInt]
theorem mh {T ty:TypeId} {s:ByteArray} {i:Nat} (hu:P.underlying T=some .string) (hi:i<s.size) (hk:K (.int .u8 s[i].toNat) w) :
  Run P (sOp (.index T (.const (.string s)) (.const (.int .i64 i))) ty) w K:=by
 refine Run.of ?_ hk
 have h0:(0:Int)<=(i:Int):=by omega
 simp [sOp,execOp,Instr.index,asIntOf,run_underlying hu,ev0,evE,hi]
end pure

theorem aw {c:Bool} {A B:Prop} (ht:c=true->A) (hf:c=false->B):CondV (.bool c) A B:=by
 unfold CondV
 cases c
 ·exact hf rfl
 ·exact ht rfl
theorem aL {p:Prop} [Decidable p] {A B:Prop} (ht:p->A) (hf:¬ p->B):CondV (.bool (decide p)) A B:=
 aw (fun h=>ht (of_decide_eq_true h)) (fun h=>hf (of_decide_eq_false h))
theorem RI {c b:Bool} {A B:Prop} (ht:c=b->A) (hf:c≠b->B):az (.bool c) b A B:=by
 unfold az
 simp only []
 split
 ·rename_i e; exact ht e
 ·rename_i e; exact hf e
end
section
open Go Go.RowKit
attribute [local irreducible] Run CondV az aO

def inI (n:Int):Prop:=-9223372036854775808<=n/\n<=9223372036854775807

inductive T where
 | mk (kind n:Int) (name:ByteArray) (kids:List T)
namespace T
def kind:T->Int
 | .mk k _ _ _=>k
def n:T->Int
 | .mk _ n _ _=>n
def name:T->ByteArray
 | .mk _ _ s _=>s
def kids:T->List T
 | .mk _ _ _ ks=>ks
theorem ind {p:T->Prop} (h:∀ k n s ks,(∀ t∈ks,p t)->p (.mk k n s ks)) (t:T):p t:=
 T.rec (motive_1:=p) (motive_2:=fun l=>∀ t∈l,p t) (fun k n s ks ih=>h k n s ks ih) (by simp) (fun a l h1 h2 t ht=>by
  rcases bN.1 ht with rfl|ht
  ·exact h1
  ·exact h2 t ht) t
end T
structure C where
 head:T
 body:List T

def aX (c:Array Value) (o k:Nat):List Value:=(c.toList.drop o).take k
def RdSl {α:Type} (S:ae) (k:Nat) (R:List Value->α->Prop) (v:Value) (xs:List α):Prop:=
 ∃ a cap,v=.slice a xs.length cap/\xs.length<=cap/\cap<=maxLen/\
  (xs=[] ∨ ∃ b o c E fz,a=some ⟨b,o,none⟩/\S b=some (.cells c E fz)/\∀ i (h:i<xs.length),R (aX c (o+i * k) k) xs[i])
inductive RdT (S:ae):List Value->T->Prop
 | nil {k n:Int} {s:ByteArray} {a:Option Addr} {cap:Nat} (hk:inI k) (hn:inI n) (hs:s.size<=maxLen) (hc:cap<=maxLen) :
   RdT S [.int .i64 k,.int .i64 n,.string s,.slice a 0 cap] (.mk k n s [])
 | cons {k n:Int} {s:ByteArray} {kids:List T} {b o cap:Nat} {c:Array Value} {E:TypeId} {fz:Nat × Nat} (hk:inI k) (hn:inI n) (hs:s.size<=maxLen) (hl:kids.length<=cap) (hc:cap<=maxLen)
   (hS:S b=some (.cells c E fz)) (h:∀ i (h:i<kids.length),RdT S (aX c (o+i * 4) 4) kids[i]) :
   RdT S [.int .i64 k,.int .i64 n,.string s,.slice (some ⟨b,o,none⟩) kids.length cap] (.mk k n s kids)
theorem RdT.iff {S:ae} {cs:List Value} {t:T}:RdT S cs t ↔
  ∃ ks,cs=[.int .i64 t.kind,.int .i64 t.n,.string t.name,ks]/\inI t.kind/\inI t.n/\t.name.size<=maxLen/\RdSl S 4 (RdT S) ks t.kids:=by
 constructor
 ·intro h
  cases h with
  | nil hk hn hs hc=>exact ⟨_,rfl,hk,hn,hs,_,_,rfl,be _,hc,.inl rfl⟩
  | cons hk hn hs hl hc hS h=>exact ⟨_,rfl,hk,hn,hs,_,_,rfl,hl,hc,.inr ⟨_,_,_,_,_,rfl,hS,h⟩⟩
 ·obtain ⟨k,n,s,kids⟩:=t
  rintro ⟨ks,rfl,hk,hn,hs,a,cap,rfl,hl,hc,h⟩
  rcases h with h|⟨b,o,c,E,fz,rfl,hS,h⟩
  ·simp only [T.kids] at h
   subst h
   exact RdT.nil hk hn hs hc
  ·exact RdT.cons hk hn hs hl hc hS h
theorem RdT.length {S:ae} {cs:List Value} {t:T} (h:RdT S cs t):cs.length=4:=by
 obtain ⟨ks,rfl,_⟩:=RdT.iff.1 h; rfl
theorem RdT.mono {S S':ae} (hs:Sle S S') {cs:List Value} {t:T} (h:RdT S cs t):RdT S' cs t:=by
 induction h with
 | nil hk hn hs hc=>exact RdT.nil hk hn hs hc
 | cons hk hn hs' hl hc hS _ ih=>exact RdT.cons hk hn hs' hl hc (hs _ _ hS) ih
theorem RdSl.mono {α:Type} {S S':ae} {k:Nat} {R R':List Value->α->Prop} {v:Value} {xs:List α} (hs:Sle S S') (hR:∀ cs x,R cs x->R' cs x) (h:RdSl S k R v xs):RdSl S' k R' v xs:=by
 obtain ⟨a,cap,rfl,hl,hc,h⟩:=h
 refine ⟨a,cap,rfl,hl,hc,?_⟩
 rcases h with h|⟨b,o,c,E,fz,ha,hS,h⟩
 ·exact .inl h
 ·exact .inr ⟨b,o,c,E,fz,ha,hs _ _ hS,fun i hi=>hR _ _ (h i hi)⟩
theorem RdSl.monoT {S S':ae} {v:Value} {xs:List T} (hs:Sle S S') (h:RdSl S 4 (RdT S) v xs):RdSl S' 4 (RdT S') v xs:=h.mono hs fun _ _=>RdT.mono hs
def RdC (S:ae) (cs:List Value) (c:C):Prop:=∃ hd ks,cs=hd++[ks]/\RdT S hd c.head/\RdSl S 4 (RdT S) ks c.body
theorem RdC.length {S:ae} {cs:List Value} {c:C} (h:RdC S cs c):cs.length=5:=by
 obtain ⟨hd,ks,rfl,h,_⟩:=h; simp [h.length]
theorem RdC.mono {S S':ae} (hs:Sle S S') {cs:List Value} {c:C} (h:RdC S cs c):RdC S' cs c:=by
 obtain ⟨hd,ks,rfl,h1,h2⟩:=h; exact ⟨hd,ks,rfl,h1.mono hs,h2.monoT hs⟩
theorem RdSl.monoC {S S':ae} {v:Value} {xs:List C} (hs:Sle S S') (h:RdSl S 5 (RdC S) v xs):RdSl S' 5 (RdC S') v xs:=h.mono hs fun _ _=>RdC.mono hs

theorem RdSl.at_ {α:Type} {S:ae} {k:Nat} {R:List Value->α->Prop} {v:Value} {xs:List α} (h:RdSl S k R v xs) {i:Nat} (hi:i<xs.length) :
  ∃ b o cap c E fz,v=.slice (some ⟨b,o,none⟩) xs.length cap/\S b=some (.cells c E fz)/\R (aX c (o+i * k) k) xs[i]:=by
 obtain ⟨a,cap,rfl,hl,hc,h⟩:=h
 rcases h with h|⟨b,o,c,E,fz,rfl,hS,h⟩
 ·subst h; simp at hi
 ·exact ⟨b,o,cap,c,E,fz,rfl,hS,h i hi⟩
theorem RdSl.le {α:Type} {S:ae} {k:Nat} {R:List Value->α->Prop} {v:Value} {xs:List α} (h:RdSl S k R v xs):xs.length<=maxLen:=by
 obtain ⟨a,cap,rfl,hl,hc,h⟩:=h; exact gX hl hc
theorem aH {c:Array Value} {o k:Nat} {cs:List Value} (e:aX c o k=cs):∀ j v,cs[j]?=some v->c[o+j]?=some v:=by
 intro j v h
 subst e
 rw [aX,r4] at h
 split at h
 ·rw [AD] at h; simpa using h
 ·cases h

section
variable {P:Program} {w w0:World} {X:List Nat} {L:List Item} {S:ae} {K:Value->World->Prop}
theorem aF {α:Type} {T ty:TypeId} {cs:List Bool} {k:Nat} {R:List Value->α->Prop} {v:Value} {xs:List α} {Ek:TypeId × Nat} (h:RdSl S k R v xs) (hu:cG P T=some Ek)
  (hk:K (.int .i64 xs.length) w):Run P (bM .len #[T] ty cs [v]) w K:=by
 obtain ⟨a,cap,rfl,_⟩:=h
 exact eV hu hk
def elP (v:Value) (n:Nat):Value:=match v with
 | .slice (some a) _ _=>.pointer (some ⟨a.block,a.off+n,none⟩)
 | _=>undef
def elQ (v:Value) (n d:Nat):Value:=match v with
 | .slice (some a) _ _=>.pointer (some ⟨a.block,a.off+n+d,none⟩)
 | _=>undef
section
variable {K:Value->Value->World->Prop} {K3:Value->Value->Value->World->Prop}
theorem cL {α:Type} {T U ty ty' E:TypeId} {k:Nat} {R:List Value->α->Prop} {v:Value} {xs:List α} (hI:Inv w0 X L S w) (h:RdSl S k R v xs) (hu:cG P T=some (E,k)) (hU:sa P U=some k)
  {i:Nat} (hi:i<xs.length) (hlen:∀ cs x,R cs x->cs.length=k) (hk:∀ cs,R cs xs[i]->K (elP v (i * k)) (.agg cs.toArray) w) :
  Run P (sOp (.indexAddr T (.const v) (.const (.int .i64 i))) ty) w fun p w'=>Run P (sOp (.load U (.const p)) ty') w' (K p):=by
 obtain ⟨b,o,cap,c,E',fz,rfl,hS,hR⟩:=h.at_ hi
 refine aE hu hi ?_
 refine bL hU (hlen _ _ hR) (fun j v hj=>?_) (hk _ hR)
 rw [hI.cellS hS]
 exact aH rfl j v hj
theorem qA {α:Type} {T Tf U ty ty' ty'' E:TypeId} {k f d:Nat} {R:List Value->α->Prop} {v u:Value} {xs:List α} (hI:Inv w0 X L S w) (h:RdSl S k R v xs) (hu:cG P T=some (E,k)) (hf:bG P Tf f=some d) (hU:jI P U=true)
  {i:Nat} (hi:i<xs.length) (hc:∀ cs,R cs xs[i]->cs[d]?=some u) (hk:K3 (elP v (i * k)) (elQ v (i * k) d) u w) :
  Run P (sOp (.indexAddr T (.const v) (.const (.int .i64 i))) ty) w fun p w'=>Run P (sOp (.fieldAddr Tf (.const p) f) ty') w' fun q w''=>Run P (sOp (.load U (.const q)) ty'') w'' (K3 p q):=by
 obtain ⟨b,o,cap,c,E',fz,rfl,hS,hR⟩:=h.at_ hi
 refine aE hu hi ?_
 refine au hf ?_
 refine ct hU ?_ hk
 rw [hI.cellS hS]
 exact aH rfl d u (hc _ hR)
theorem af {T U ty ty' E:TypeId} {f d b:Nat} {c:Array Value} {u:Value} (hI:Inv w0 X L S w) (i:Nat) (hi:L[i]?=some (.blk b (.cells c E))) (hf:bG P T f=some d) (hU:jI P U=true) (hc:c[d]?=some u)
  (hk:K (.pointer (some ⟨b,d,none⟩)) u w):Run P (sOp (.fieldAddr T (.const (.pointer (some ⟨b,0,none⟩))) f) ty) w fun q w'=>Run P (sOp (.load U (.const q)) ty') w' (K q):=by
 refine au hf ?_
 rw [cq]
 exact aN hI i hU hi hc hk
end
end
theorem Pure.mk {P:Program} {f:FuncId} {args:List Value} {S:ae} {r:Value} (h:∀ w:World,Inv w [] [] S w->Calls P f args.toArray w fun e w'=>e=.returned r/\Inv w [] [] S w'):Pure P f args S r:=h
theorem done {w w':World} {L:List Item} {S:ae} {r r':Value} (h:Inv w [] L S w') (e:r'=r):Ending.returned r'=.returned r/\Inv w [] [] S w':=⟨by rw [e],h.nil⟩

section
variable {P:Program} {w:World} {K:Value->World->Prop} {ty:TypeId}
theorem bT {b:Bool} {A B:Prop} (h:A):az (.bool b) b A B:=by unfold az; simp only [if_true]; exact h
theorem dG {c b:Bool} {A B:Prop} (hc:c≠b) (h:B):az (.bool c) b A B:=by unfold az; simp only [ah hc]; exact h
theorem NT {b:Bool} {A B:Prop} (h:B):az undef b A B:=by unfold az; exact h
theorem Fg {v u:Value} (hk:K v w):Run P (sOp (.pick (.const (.bool true)) (.const v) (.const u)) ty) w K:=xP hk
theorem uQ {v u:Value} (hk:K u w):Run P (sOp (.pick (.const (.bool false)) (.const v) (.const u)) ty) w K:=xP hk
theorem rpG {p q:Prop} (h:q) (i:q->p:=by (intro h; (repeat (first|refine bT ?_|refine dG (by decide) ?_|refine NT ?_|refine Fg ?_|refine uQ ?_)); exact h)):p:=i h
end
end
section
open Go Go.RowKit
attribute [local irreducible] Run CondV az aO

def mU (P:Program) (T:TypeId):Option (TypeId × Nat × Nat × Value):=match P.underlying T with
 | some (.slice e)=>match P.info? e with
  | some i=>match i.zero with
   | some z=>match Nat.beq z.cells.size i.size with
    | true=>some (e,i.size,i.bytes,z)
    | false=>none
   | none=>none
  | none=>none
 | _=>none
theorem j0 {P:Program} {T e:TypeId} {k by_:Nat} {z:Value} (h:mU P T=some (e,k,by_,z)) :
  P.underlying T=some (.slice e)/\∃ i,P.info? e=some i/\i.zero=some z/\i.size=k/\i.bytes=by_/\z.cells.size=k:=by
 unfold mU at h
 split at h <;> try cases h
 rename_i e' hu
 split at h <;> try cases h
 rename_i i hi
 split at h <;> try cases h
 rename_i z' hz
 split at h <;> try cases h
 rename_i hb
 exact ⟨hu,i,hi,hz,rfl,rfl,Ni hb⟩

theorem OP:∀ (l:List Value) (o j:Nat) (cs:Array Value),o+j+l.length<=cs.size->
  (l.zipIdx j).foldl (fun cs p=>cs.setIfInBounds (o+p.2) p.1) cs=bn cs (o+j) l
 | [],o,j,cs,_=>by simp [bn]
 | v::l,o,j,cs,h=>by
  simp only [bw] at h
  rw [List.zipIdx_cons,oc,OP l o (j+1) _ (by simp; omega)]
  apply F4.1
  simp only [bn,bw]
  rw [aaa,show o+(j+1)=o+j+1 by omega]
  have hlt:o+j<cs.toList.length:=by simp; omega
  rw [fl (by simpa using hlt),List.take_set_of_le (aW _)]
  simp only [Qp,eK,iR,rg]
  rw [List.drop_set_of_lt (by omega),show o+j+1+l.length=o+j+(l.length+1) by omega]
theorem PL (v:Value) (o:Nat) (cs:Array Value) (h:o+v.cells.size<=cs.size) :
  v.cells.zipIdx.foldl (fun cs (c,j)=>cs.setIfInBounds (o+j) c) cs=bn cs o v.cells.toList:=by
 rw [<- Array.foldl_toList,Array.toList_zipIdx]
 exact OP v.cells.toList o 0 cs (by simpa using h)
theorem fM (c:Array Value) (o:Nat) (vs:List Value) (h:o+vs.length<=c.size):(bn c o vs).size=c.size:=by
 simp [bn]; omega
theorem yt (c:Array Value) (vs:List Value) (h:vs.length=c.size):bn c 0 vs=vs.toArray:=by
 simp [bn,h]
theorem mQ {c:Array Value} {o:Nat} {vs:List Value} {p k:Nat} (hf:o+vs.length<=c.size) (h:p+k<=o ∨ o+vs.length<=p):aX (bn c o vs) p k=aX c p k:=by
 apply wD
 intro i
 simp only [aX,bn,r4,AD]
 split
 ·rename_i hi
  simp only [List.getElem?_append,bA,dX,r4,AD,Og]
  rcases h with h|h
  ·rw [ai (by omega),ai (by omega),ai (by omega)]
  ·rw [ah (by omega)]
   congr 1
   omega
 ·rfl
theorem kq {c:Array Value} {o:Nat} {vs:List Value} (hf:o+vs.length<=c.size):aX (bn c o vs) o vs.length=vs:=by
 simp only [aX,bn]
 rw [eK,List.drop_append_of_le_length (by simp; omega),jT (by simp; omega),rg,FB]

section
variable {P:Program} {w w0:World} {X:List Nat} {L:List Item} {S:ae} {K:Value->World->Prop}

theorem uU (h:Inv w0 X L S w) {T e:TypeId} {k by_:Nat} {z v:Value} (hT:mU P T=some (e,k,by_,z)) (hv:v.cells.size=k) (hk24:k<=65536) (hk0:0<k)
  (hk:∀ w',Inv w0 X (L++[.blk w.heap.size (.cells v.cells e)]) S w'->K (.slice (some ⟨w.heap.size,0,none⟩) 1 1) w') :
  Run P (bC T 1 [(0,v)]) w K:=by
 obtain ⟨hu,i,hi,hz,hs,hb,hzs⟩:=j0 hT
 refine Run.of (v:=.slice (some ⟨w.heap.size,0,none⟩) 1 1) (w':={ w with heap:=w.heap.push (.cells v.cells e) }) ?_ (hk _ (h.alloc _))
 have h1:¬ (k > 2 ^ 24):=by omega
 have h2:¬ k=0:=by omega
 have hf:Instr.fill (fun i=>some (i * k,k)) ((Array.range k).map (z.cells[· % z.cells.size]!)) [(0,v)]=some v.cells:=by
  simp only [Instr.fill,Cf,cq,hv,Array.size_map,Array.size_range,ne_eq,not_true_eq_false,decide_false,gt_iff_lt,Nat.lt_irrefl,Bool.or_self,if_false,JS]
  have:=PL v 0 ((Array.range k).map (z.cells[· % z.cells.size]!)) (by simp [hv])
  simp only [cq] at this
  rw [this,yt _ _ (by simp [hv])]
 simp [bC,Instr.buildSlice,run_underlying hu,sizeOf,typeInfo,hi,hs,h1,h2,zeroValue,hz,hf,newRow,newObj,Sem.run]
theorem er (h:Inv w0 X L S w) {T e:TypeId} {k by_:Nat} {z v:Value} (hT:mU P T=some (e,k,by_,z)) (hv:v.cells.size=k) (hk24:k<=65536) (hk0:0<k)
  (hk:∀ b w',Inv w0 X (L++[.blk b (.cells v.cells e)]) S w'->K (.slice (some ⟨b,0,none⟩) 1 1) w') :
  Run P (bC T 1 [(0,v)]) w K:=uU h hT hv hk24 hk0 (hk _)
theorem fA (h:Inv w0 X L S w) {T e:TypeId} {k by_:Nat} {z:Value} (hT:mU P T=some (e,k,by_,z))
  (hk:∀ v w',Inv w0 X (L++[.row v e k 0 []]) S w'->K v w') :
  Run P (bC T 0 []) w K:=by
 obtain ⟨hu,i,hi,hz,hs,hb,hzs⟩:=j0 hT
 have hI:Inv w0 X (L++[.row (.slice (some ⟨w.heap.size,0,none⟩) 0 0) e k 0 []]) S { w with heap:=w.heap.push (.cells #[] e) }:=by
  refine h.addItem (w':={ w with heap:=w.heap.push (.cells #[] e) }) ⟨by simp,rfl,rfl,rfl,fun b hb=>by simp [Array.getElem?_push,Nat.ne_of_lt hb]⟩ ?_ ?_ ?_
  ·exact ⟨by simp,.inr ⟨w.heap.size,0,#[],rfl,be _,by simp,aW _,be _,by simp,by simp⟩⟩
  ·simp [Item.foot,Value.ownBlock]
  ·simp [Item.foot,Value.ownBlock]
 refine Run.of (v:=.slice (some ⟨w.heap.size,0,none⟩) 0 0) (w':={ w with heap:=w.heap.push (.cells #[] e) }) ?_ (hk _ _ hI)
 have hr:∀ f:Nat->Value,(Array.range 0).map f=#[]:=fun f=>by simp
 simp [bC,Instr.buildSlice,run_underlying hu,sizeOf,typeInfo,hi,Instr.fill,newRow,newObj,Sem.run,hr]

theorem Inv.rowNil (h:Inv w0 X L S w) (e:TypeId) (k:Nat):Inv w0 X (L++[.row (.slice none 0 0) e k 0 []]) S w:=
 h.addItem (Grow.refl w) (it:=.row (.slice none 0 0) e k 0 []) (World.ownsRow_nil w 0 e k) (by simp [Item.foot,Value.ownBlock]) (by simp [Item.foot,Value.ownBlock])

theorem Nu {P:Program} (w:World) (T ty e:TypeId) (inf:TypeInfo) (z:Value) (hu:P.underlying T=some (.slice e)) (hi:P.info? e=some inf) (hz:inf.zero=some z)
  {v v':Value} {n m cp:Nat} {xs news:List Value} {a:Addr} {w':World} (hown:w.ownsRow 0 e inf.size v n xs)
  (hl:news.length=m * inf.size) (hnews:∀ j u,news[j]?=some u->w.cell? (a.add j)=some u) (h1:∀ u∈news,u.oneCell'=true) (hfit:n+m<=4294967296) (hbytes:(n+m) * inf.bytes<=140737488355328)
  (hr:(Builtin.append_ #[T,T] ty #[v,.slice (some a) m cp]).run P w=.ok v' w') (hnil:v'=.slice none 0 0↔v=.slice none 0 0/\m=0) :
  ∀ c,v'.ownBlock=some c->v.ownBlock=some c ∨ w.heap.size<=c:=by
 intro c hc
 rcases hown.2 with ⟨rfl,rfl⟩|⟨g,cap,cur,rfl,_,hg,hnc,hcm,hcs,htake⟩
 ·by_cases hm:m=0
  ·rw [hnil.2 ⟨rfl,hm⟩] at hc
   simp [Value.ownBlock] at hc
  ·have h2:=run_append_nil (P:=P) (w:=w) T ty e inf z hu hi hz a m cp news hl hnews (by omega) (by omega) (by simp only [cq] at hbytes; omega)
   rw [hr] at h2
   simp only [Result.ok.injEq] at h2
   rw [h2.1] at hc
   simp only [Value.ownBlock,bg] at hc
   right; omega
 ·by_cases hroom:n+m<=cap
  ·have h2:=run_append_room (P:=P) w T ty e inf hu hi g n cap cur hg a m cp news hl hnews h1 hroom (by rw [hl,hcs,<- tJ]; exact ja _ hroom)
   rw [hr] at h2
   simp only [Result.ok.injEq] at h2
   rw [h2.1] at hc
   left; exact hc
  ·have h2:=run_append_grow (P:=P) (w:=w) T ty e inf z hu hi hz ⟨g,0,none⟩ n cap xs hown.1 (hown.cells (g:=g) rfl) a m cp news hl hnews (by omega) (by omega) (growslice_fits (by omega) hbytes)
   rw [hr] at h2
   simp only [Result.ok.injEq] at h2
   rw [h2.1] at hc
   simp only [Value.ownBlock,bg] at hc
   right; omega

theorem dZ (h:Inv w0 X L S w) {T ty e:TypeId} {k by_ n m cp b o:Nat} {z v:Value} {cs:List Bool} {xs:List Value} (i:Nat) (news:List Value)
  (hT:mU P T=some (e,k,by_,z)) (hk0:0<k) (hi:L[i]?=some (.row v e k n xs)) (hl:news.length=m * k)
  (hnews:∀ j u,news[j]?=some u->w.cell? ⟨b,o+j,none⟩=some u) (h1:∀ u∈news,u.oneCell'=true) (hfit:n+m<=4294967296) (hby:by_<=32768)
  (hk:∀ v' w',Inv w0 X (L.set i (.row v' e k (n+m) (xs++news))) S w'->K v' w') :
  Run P (bM .append #[T,T] ty cs [v,.slice (some ⟨b,o,none⟩) m cp]) w K:=by
 obtain ⟨hu,inf,hi',hz,hs,hb,hzs⟩:=j0 hT
 have hown:=h.its _ (cz hi)
 simp only [Item.holds] at hown
 have hbytes:(n+m) * by_<=140737488355328:=gX (Ca hfit hby) (by decide)
 have hnews':∀ j u,news[j]?=some u->w.cell? ((⟨b,o,none⟩:Addr).add j)=some u:=fun j u hj=>by rw [gn]; exact hnews j u hj
 obtain ⟨v',w',hr,h2,h3,h4⟩:=run_append_own (P:=P) w 0 T ty e inf z k by_ hu hi' hz hs hb hzs hk0 v n xs hown ⟨b,o,none⟩ m cp news hl
  hnews' h1 (by simp only [maxLen]; omega) hbytes (be _)
 have hwh:=Nu (P:=P) w T ty e inf z hu hi' hz (by rw [hs]; exact hown) (by rw [hs]; exact hl) hnews' h1 hfit (by rw [hb]; exact hbytes) hr h4
 refine Run.of (v:=v') (w':=w') ?_ (hk _ _ ?_)
 ·simp [bM,builtin,hr]
 ·refine h.change hi h3.size h3.os h3.tape h3.output (fun c hc hc'=>h3.block c hc ?_) (it':=.row v' e k (n+m) (xs++news)) h2 ?_ ?_
  ·intro e'
   exact hc' (by simp [Item.foot,<- e'])
  ·intro c hc
   simp only [Item.foot,Option.mem_toList] at hc ⊢
   exact hwh c hc
  ·cases v' <;> simp [Item.foot,Value.ownBlock]
   rename_i a _ _
   cases a <;> simp
end
def Fx (D:Nat->Bool):Nat->List Prop->Prop
 | _,[]=>True
 | k,p::l=>(D k=true->p)/\Fx D (k+1) l
def ZV (D:Nat->Bool):Nat->List Prop->Prop
 | _,[]=>True
 | k,_::l=>D k=true/\ZV D (k+1) l
def ZI:List Prop->Prop
 | []=>True
 | p::l=>p/\ZI l
theorem Fx.nil:∀ (k:Nat) (l:List Prop),Fx (fun _=>false) k l
 | _,[]=>trivial
 | k,_::l=>⟨aQ,Fx.nil (k+1) l⟩
theorem Fx.low {D:Nat->Bool} {m:Nat}:∀ (k:Nat) (l:List Prop),m<k->Fx D k l->Fx (aD D m) k l
 | _,[],_,_=>trivial
 | k,p::l,hm,h=>⟨fun e=>h.1 (by
   have:Nat.beq k m=false:=by rw [bB]; intro h2; have:=Ni h2; omega
   simpa [aD,this] using e),Fx.low (k+1) l (by omega) h.2⟩
theorem Fx.setK {D:Nat->Bool} {p:Prop} (hp:p):∀ (m k:Nat) (l:List Prop),Fx D k l->Fx (aD D (k+m)) k (l.set m p)
 | _,_,[],_=>trivial
 | 0,k,q::l,h=>⟨fun _=>hp,Fx.low (k+1) l (by omega) h.2⟩
 | m+1,k,q::l,h=>⟨fun e=>h.1 (by
   have:Nat.beq k (k+(m+1))=false:=by rw [bB]; intro h2; have:=Ni h2; omega
   simpa [aD,this] using e),by
   have:=Fx.setK hp m (k+1) l h.2
   rwa [show k+1+m=k+(m+1) by omega] at this⟩
theorem Fx.set {D:Nat->Bool} {l:List Prop} (h:Fx D 0 l) (m:Nat) {p:Prop} (hp:p):Fx (aD D m) 0 (l.set m p):=by
 have:=Fx.setK hp m 0 l h
 rwa [cq] at this
theorem Fx.allK {D:Nat->Bool}:∀ (k:Nat) (l:List Prop),Fx D k l->ZV D k l->ZI l
 | _,[],_,_=>trivial
 | k,_::l,h,hd=>⟨h.1 hd.1,Fx.allK (k+1) l h.2 hd.2⟩
theorem Fx.all {D:Nat->Bool} {l:List Prop} (h:Fx D 0 l) (hd:ZV D 0 l:=by repeat (first|exact trivial|refine And.intro (by assumption) ?_)):ZI l:=Fx.allK 0 l h hd
def ab9 (P:Program) (t:TypeId):Option (List (Nat × TypeId)):=match P.underlying t with
 | some (.struct fs)=>some (fs.toList.map fun f=>(f.offset,f.type))
 | _=>none
end
end Go.Proofs.YtgllldjiaglkcaaGreatDoor
