/- A verification condition over the model's code, structural in the code, and its soundness: 'vc' gives 'Code.wp', 'calls_of_vc' gives 'Calls'. It speaks of any program. -/
import Derived.Orders
import Derived.Calls
import Derived.Laws.Sem
import Derived.Below
import Derived.Laws.AppendOwn
import Derived.Laws.Cells
import Derived.Laws.CopyRow
import Derived.Laws.Entries
import Derived.IntWalk
import Derived.Lib.IndexBytes
namespace Go.Proofs.YtellfcpffcipcaaGreatDoor
section
open Go
abbrev abx:=@Array.getElem?_eq_some_iff
abbrev abg:=@Array.getElem?_setIfInBounds_ne
abbrev acP:=@Array.getElem?_toList
abbrev SZ:=@Array.length_toList
abbrev acg:=@Array.toList_eraseIdxIfInBounds
abbrev Gw:=@Array.toList_inj
abbrev Y2:=@Array.toList_push
abbrev abk:=@Array.toList_setIfInBounds
abbrev Zo:=@Bool.and_assoc
abbrev acq:=@Bool.and_eq_false_iff
abbrev aZ:=@Bool.and_eq_true
abbrev m5:=@Bool.and_false
abbrev bN:=@Bool.eq_false_iff
abbrev qt:=@Bool.eq_iff_iff
abbrev jZ:=@Bool.false_and
abbrev H2:=@Bool.false_eq_true
abbrev ib:=@Bool.false_or
abbrev rW:=@Bool.not_eq_false'
abbrev PW:=@Bool.not_eq_true
abbrev lg:=@Bool.not_eq_true'
abbrev Hy:=@Bool.or_eq_false_iff
abbrev jI:=@Bool.or_eq_true
abbrev IF:=@Bool.or_true
abbrev dz:=@Bool.true_and
abbrev py:=@Bool.true_or
abbrev H1:=@Int.le_refl
abbrev dq:=@Int.toNat_natCast
abbrev uW:=@Int.toNat_of_nonneg
abbrev yj:=@List.Perm.append_left
abbrev BG:=@List.Sublist.refl
abbrev Wu:=@List.all_cons
abbrev Zf:=@List.all_eq_false
abbrev eX:=@List.all_eq_true
abbrev fD:=@List.any_cons
abbrev ET:=@List.any_eq_true
abbrev eY:=@List.append_assoc
abbrev ZY:=@List.append_inj'
abbrev dc:=@List.append_nil
abbrev gV:=@List.cons.injEq
abbrev i8:=@List.cons_append
abbrev Wf:=@List.dropLast_concat_getLast
abbrev Wm:=@List.drop_drop
abbrev dB:=@List.drop_eq_getElem_cons
abbrev xZ:=@List.drop_eq_nil_of_le
abbrev WP:=@List.drop_left
abbrev dY:=@List.drop_length
abbrev EX:=@List.drop_take
abbrev yE:=@List.drop_zero
abbrev iy:=@List.eq_nil_of_length_eq_zero
abbrev Yi:=@List.eq_nil_or_concat
abbrev Wa:=@List.eq_of_mem_replicate
abbrev YN:=@List.eraseIdx_eq_take_drop_succ
abbrev ya:=@List.ext_getElem?
abbrev ZD:=@List.filter_congr
abbrev wH:=@List.filter_cons
abbrev Wj:=@List.filter_eq_nil_iff
abbrev Wx:=@List.filter_filter
abbrev Iw:=@List.flatMap_cons
abbrev AB:=@List.flatten_append
abbrev jY:=@List.flatten_cons
abbrev uZ:=@List.flatten_nil
abbrev MI:=@List.getD_eq_getElem?_getD
abbrev YF:=@List.getElem?_append
abbrev vA:=@List.getElem?_append_left
abbrev jr:=@List.getElem?_append_right
abbrev nL:=@List.getElem?_cons_succ
abbrev Mq:=@List.getElem?_cons_zero
abbrev AW:=@List.getElem?_drop
abbrev gd:=@List.getElem?_eq_getElem
abbrev Qh:=@List.getElem?_eq_none
abbrev fS:=@List.getElem?_eq_some_iff
abbrev Qc:=@List.getElem?_replicate
abbrev CT:=@List.getElem?_set
abbrev C8:=@List.getElem?_set_ne
abbrev QP:=@List.getElem?_set_self
abbrev ym:=@List.getElem?_take
abbrev iO:=@List.getElem_append_left
abbrev gF:=@List.getElem_append_right
abbrev Z9:=@List.getElem_cons_succ
abbrev pi:=@List.getElem_cons_zero
abbrev ZM:=@List.getElem_drop
abbrev M4:=@List.getElem_map
abbrev bJ:=@List.getElem_mem
abbrev CV:=@List.getElem_of_mem
abbrev YR:=@List.getElem_replicate
abbrev QC:=@List.getElem_set_ne
abbrev Md:=@List.getElem_set_self
abbrev IU:=@List.getElem_take
abbrev bK:=@List.length_append
abbrev bI:=@List.length_cons
abbrev nJ:=@List.length_drop
abbrev ZR:=@List.length_filter_le
abbrev nN:=@List.length_map
abbrev cB:=@List.length_nil
abbrev E0:=@List.length_replicate
abbrev mQ:=@List.length_set
abbrev sg:=@List.length_singleton
abbrev ey:=@List.length_take
abbrev WA:=@List.length_zip
abbrev IY:=@List.map_append
abbrev qD:=@List.map_cons
abbrev ci:=@List.mem_append
abbrev dO:=@List.mem_append_left
abbrev im:=@List.mem_append_right
abbrev cw:=@List.mem_cons
abbrev bk:=@List.mem_cons_of_mem
abbrev bi:=@List.mem_cons_self
abbrev OR:=@List.mem_filter
abbrev zu:=@List.mem_iff_getElem
abbrev eV:=@List.mem_map
abbrev cJ:=@List.mem_of_getElem?
abbrev Vf:=@List.mem_of_mem_drop
abbrev zO:=@List.mem_of_mem_take
abbrev DS:=@List.mem_or_eq_of_mem_set
abbrev cE:=@List.mem_singleton
abbrev u9:=@List.nil_append
abbrev JV:=@List.nil_sublist
abbrev qF:=@List.nodup_append
abbrev N8:=@List.nodup_cons
abbrev IQ:=@List.nodup_nil
abbrev ic:=@List.not_mem_nil
abbrev VL:=@List.pairwise_append
abbrev Uz:=@List.pairwise_cons
abbrev Z8:=@List.pairwise_iff_forall_sublist
abbrev cT:=@List.perm_append_comm
abbrev zal125:=@List.perm_middle
abbrev SX:=@List.prefix_refl
abbrev Vg:=@List.replicate_append_replicate
abbrev VD:=@List.set_append_left
abbrev OQ:=@List.set_cons_succ
abbrev TY:=@List.set_cons_zero
abbrev DE:=@List.set_eq_take_append_cons_drop
abbrev VN:=@List.size_toArray
abbrev eh:=@List.sublist_append_left
abbrev eR:=@List.sublist_append_right
abbrev kA:=@List.sublist_cons_self
abbrev Pw:=@List.take_append_drop
abbrev Uc:=@List.take_append_of_le_length
abbrev IE:=@List.take_left
abbrev H6:=@List.take_left'
abbrev fM:=@List.take_length
abbrev Ie:=@List.take_of_length_le
abbrev tf:=@List.take_succ_cons
abbrev gh:=@List.take_succ_eq_append_getElem
abbrev lW:=@List.take_take
abbrev NA:=@List.take_zero
abbrev NB:=@Nat.add_assoc
abbrev vR:=@Nat.add_comm
abbrev Ej:=@Nat.add_mul
abbrev zL:=@Nat.add_right_cancel_iff
abbrev qS:=@Nat.add_sub_cancel_left
abbrev vo:=@Nat.add_zero
abbrev Uj:=@Nat.ble_eq_true_of_le
abbrev Pk:=@Nat.eq_of_beq_eq_true
abbrev s3:=@Nat.le_add_right
abbrev l9:=@Nat.le_of_ble_eq_true
abbrev Dh:=@Nat.le_of_eq
abbrev be:=@Nat.le_refl
abbrev TO:=@Nat.le_succ_of_le
abbrev gM:=@Nat.le_trans
abbrev O6:=@Nat.lt_or_ge
abbrev Vw:=@Nat.lt_succ_self
abbrev kJ:=@Nat.min_eq_left
abbrev wG:=@Nat.mod_lt
abbrev DY:=@Nat.mul_le_mul
abbrev jw:=@Nat.mul_le_mul_right
abbrev Ut:=@Nat.pow_le_pow_right
abbrev fH:=@Nat.sub_self
abbrev mi:=@Nat.succ_mul
abbrev dr:=@Nat.zero_add
abbrev bf:=@Nat.zero_le
abbrev sz:=@Nat.zero_mul
abbrev Ty:=@Option.elim_some
abbrev O3:=@Option.getD_some
abbrev HJ:=@Option.isSome_iff_exists
abbrev Ta:=@Option.map_eq_some_iff
abbrev zH:=@Option.map_some
abbrev JI:=@Option.some.inj
abbrev aY:=@Option.some.injEq
abbrev cV:=@Prod.mk.injEq
abbrev i0:=@and_true
abbrev Tl:=@beq_self_eq_true
abbrev dJ:=@decide_eq_decide
abbrev aS:=@decide_eq_false
abbrev nt:=@decide_eq_false_iff_not
abbrev aL:=@decide_eq_true
abbrev bt:=@decide_eq_true_eq
abbrev u5:=@eq_comm
abbrev af:=@if_neg
abbrev ai:=@if_pos
abbrev g9:=@or_false
abbrev vH:=@true_and
theorem aU {P:Prop} (h:false=true):P:=Bool.noConfusion h

abbrev Env:=Nat->Value
def upd (ρ:Env) (d:Nat) (v:Value):Env:=fun t=>match Nat.beq t d with
 | true=>v
 | false=>ρ t
def xQ (ρ:Env) (dst:Option Nat) (v:Value):Env:=match dst with
 | some d=>upd ρ d v
 | none=>ρ
def evE (ρ:Env):Operand->Value
 | .tmp t=>ρ t
 | .const v=>v
 | .global g=>.pointer (some ⟨g,0,none⟩)
 | .func f=>.func (.func f) #[] #[]

def Run (P:Program) (s:Sem Next) (w:World) (K:Value->World->Prop):Prop:=
 match s.run P w with
 | .ok (.value v) w'=>K v w'
 | .ok .skip w'=>K undef w'
 | .ok (.enter f args) w'=>Calls P f args w' fun
   | .returned v,w''=>K v w''
   | _,_=>False
 | _=>False

def ev0:Operand->Value:=evE fun _=>undef
def sOp (op:Op) (ty:TypeId):Sem Next:=execOp ev0 ⟨none,op,ty,"",#[],none⟩
def dH (op:BinOp) (T:TypeId) (cx cy:Bool) (x y:Value):Sem Next:=do
 eqGuard op T (bif cx then .const x else .tmp 0) (bif cy then .const y else .tmp 0) x y
 pure (.value (<- binOp op T x y))
def bZ (T:TypeId) (ps:List (Nat × Value)):Sem Next:=do pure (.value (<- Instr.build T ps.toArray))
def bY (T:TypeId) (n:Nat) (ps:List (Nat × Value)):Sem Next:=do pure (.value (<- Instr.buildSlice T n ps.toArray))
def fT (fn:Fn) (first captured:List Value):Sem Next:=do pure (.value (<- Instr.makeFunc fn first.toArray captured.toArray))
def gX (f:Value) (args:List Value):Sem Next:=do
 let d <- Deferred.ofValue f args.toArray
 invoke d.target d.args
def ce (b:Builtin) (ts:Array TypeId) (ty:TypeId) (cs:List Bool) (args:List Value):Sem Next:=
 builtin b ts ty cs.toArray args.toArray
def isC:Operand->Bool
 | .const _=>true
 | _=>false
def cl (ρ:Env) (x:Operand):Operand:=.const (evE ρ x)
def ad8 (ρ:Env):Op->Op
 | .pick c a b=>.pick (cl ρ c) (cl ρ a) (cl ρ b)
 | .alloc e=>.alloc e
 | .box e v=>.box e (cl ρ v)
 | .load t a=>.load t (cl ρ a)
 | .store t a v=>.store t (cl ρ a) (cl ρ v)
 | .nilCheck x=>.nilCheck (cl ρ x)
 | .unOp o t x=>.unOp o t (cl ρ x)
 | .convert s d x=>.convert s d (cl ρ x)
 | .makeInterface t x=>.makeInterface t (cl ρ x)
 | .makeMap t r=>.makeMap t (r.map (cl ρ))
 | .makeSlice t l c=>.makeSlice t (cl ρ l) (cl ρ c)
 | .slice t x l h m=>.slice t (cl ρ x) (l.map (cl ρ)) (h.map (cl ρ)) (m.map (cl ρ))
 | .fieldAddr t x f=>.fieldAddr t (cl ρ x) f
 | .field t x f=>.field t (cl ρ x) f
 | .indexAddr t x i=>.indexAddr t (cl ρ x) (cl ρ i)
 | .index t x i=>.index t (cl ρ x) (cl ρ i)
 | .lookup t x i ok=>.lookup t (cl ρ x) (cl ρ i) ok
 | .mapUpdate t m k v=>.mapUpdate t (cl ρ m) (cl ρ k) (cl ρ v)
 | .range t x=>.range t (cl ρ x)
 | .next x b=>.next (cl ρ x) b
 | .extract t i=>.extract (cl ρ t) i
 | .typeAssert x t a ok=>.typeAssert (cl ρ x) t a ok
 | op=>op
def acn:Op->Bool
 | .pick ..|.alloc ..|.box ..|.load ..|.store ..|.nilCheck ..|.unOp ..|.convert ..|.makeInterface ..|.makeMap ..|.makeSlice ..|.slice ..
 | .fieldAddr ..|.field ..|.indexAddr ..|.index ..|.lookup ..|.mapUpdate ..|.range ..|.next ..|.extract ..|.typeAssert ..=>true
 | _=>false
def Rw (ρ:Env) (o:Oper):Sem Next:=match o.op with
 | .binOp op T x y _=>dH op T (isC x) (isC y) (evE ρ x) (evE ρ y)
 | .build t ps=>bZ t (ps.toList.map fun p=>(p.1,evE ρ p.2))
 | .buildSlice t n ps=>bY t n (ps.toList.map fun p=>(p.1,evE ρ p.2))
 | .makeFunc fn a b=>fT fn (a.toList.map (evE ρ)) (b.toList.map (evE ρ))
 | .call c=>match c.callee with
  | .value f=>gX (evE ρ f) (c.args.toList.map (evE ρ))
  | .builtin b=>ce b c.argTypes o.type (c.args.toList.map isC) (c.args.toList.map (evE ρ))
  | .invoke ..=>execOp (evE ρ) o
 | op=>match acn op with
  | true=>sOp (ad8 ρ op) o.type
  | false=>execOp (evE ρ) o

def stepE (P:Program) (o:Oper) (ρ:Env) (w:World) (K:Value->World->Prop):Prop:=match o.op with
 | .move x|.assign x=>K (evE ρ x) w
 | _=>Run P (Rw ρ o) w K

def aF (v:Value) (b:Bool) (A B:Prop):Prop:=match v with
 | .bool c=>if c=b then A else B
 | _=>B
def GuardO (ops:List Oper) (ρ:Env) (g:Option (Nat × Bool)) (A B:Prop):Prop:=match g with
 | none=>A
 | some (j,b)=>match (ops[j]?).bind (·.dst) with
  | some d=>aF (ρ d) b A B
  | none=>B

def opE (P:Program) (ops:List Oper) (o:Oper) (ρ:Env) (w:World) (K:Env->World->Prop):Prop:=
 GuardO ops ρ o.guard (stepE P o ρ w fun v w'=>K (xQ ρ o.dst v) w') (K (xQ ρ o.dst undef) w)

def l7 (g h:Option (Nat × Bool)):Bool:=match g,h with
 | some (i,a),some (j,b)=>Nat.beq i j && (a == b)
 | none,none=>true
 | _,_=>false
def grp (g:Option (Nat × Bool)):List Oper->List Oper
 | []=>[]
 | o::os=>match l7 g o.guard with
  | true=>o::grp g os
  | false=>[]
def pN (g:Option (Nat × Bool)):List Oper->List Oper
 | []=>[]
 | o::os=>match l7 g o.guard with
  | true=>pN g os
  | false=>o::os
def Xc (P:Program):List Oper->Env->World->(Env->World->Prop)->Prop
 | [],ρ,w,K=>K ρ w
 | o::os,ρ,w,K=>stepE P o ρ w fun v w'=>Xc P os (xQ ρ o.dst v) w' K
def Qk:List Oper->Env->Env
 | [],ρ=>ρ
 | o::os,ρ=>Qk os (xQ ρ o.dst undef)
def FO (P:Program) (all:List Oper) (n:Nat):List Oper->Env->World->(Env->World->Prop)->Prop:=
 Nat.rec (fun _ _ _ _=>False) (fun _ ih l ρ w K=>match l with
  | []=>K ρ w
  | o::os=>match o.guard with
   | none=>stepE P o ρ w fun v w'=>ih os (xQ ρ o.dst v) w' K
   | some g=>GuardO all ρ (some g)
     (Xc P (o::grp (some g) os) ρ w fun ρ' w'=>ih (pN (some g) os) ρ' w' K)
     (ih (pN (some g) os) (Qk (o::grp (some g) os) ρ) w K)) n

def aC (D:Nat->Bool) (i:Nat):Nat->Bool:=fun j=>bif Nat.beq j i then true else D j
def yQ:List Edge->(Nat->Bool)->Prop->Prop
 | [],_,p=>p
 | e::es,D,p=>match Region.binds .any e with
  | true=>D e.on=true->yQ es D p
  | false=>yQ es D p
def Ao:Nat->(Nat->Bool)->Prop->Prop
 | 0,_,p=>p
 | n+1,D,p=>D n=true->Ao n D p
def Cur (α:Type):List Nat->Type
 | []=>α
 | _::l=>Value->Cur α l
def ap {α:Type}:(l:List Nat)->Cur α l->Env->α
 | [],f,_=>f
 | m::l,f,ρ=>ap l (f (ρ m)) ρ
def oi:List Nat->Env->(Env->Prop)->Prop
 | [],ρ,p=>p ρ
 | m::l,ρ,p=>∀ x:Value,oi l (upd ρ m x) p

def re:List Oper->List Nat->List Nat
 | [],l=>l
 | o::os,l=>match o.dst with
  | some d=>match l.elem d with
   | true=>re os l
   | false=>re os (d::l)
  | none=>re os l
def Eo (P:Program) (all:List Oper) (M:List Nat) (A:(Nat->Bool)->Cur (World->Prop) M) (ρ:Env):Nat->List Oper->Prop
 | _,[]=>True
 | i,o::os=>(∀ D,D i=false->yQ o.after.toList D (oi M ρ fun ρ'=>∀ w',ap M (A D) ρ' w'->
   opE P all o ρ' w' fun ρ'' w''=>ap M (A (aC D i)) ρ'' w''))/\Eo P all M A ρ (i+1) os
def TB (P:Program) (ops:List Oper) (ρ:Env) (w:World) (K:Env->World->Prop):Prop:=
 ∃ A:(Nat->Bool)->Cur (World->Prop) (re ops []),ap (re ops []) (A fun _=>false) ρ { w with drawn:=w.drawn+1 }/\
  Eo P ops (re ops []) A ρ 0 ops/\
  ∀ D,Ao ops.length D (oi (re ops []) ρ fun ρ'=>∀ w',ap (re ops []) (A D) ρ' w'->K ρ' w')

inductive An where
 | leaf
 | seq (cut:Option (List Nat)) (l r:An)
 | two (l r:An)
 | one (l:An)
 | loop (live:List Nat) (l:An)
def An.cut:An->Option (List Nat)
 | .seq c _ _=>c
 | _=>none
def An.l:An->An
 | .seq _ a _|.two a _|.one a|.loop _ a=>a
 | .leaf=>.leaf
def An.r:An->An
 | .seq _ _ b|.two _ b=>b
 | _=>.leaf
def An.live:An->List Nat
 | .loop l _=>l
 | _=>[]

def wr:Code->List Nat->List Nat
 | .region _ ops _,l=>re ops.toList l
 | .seq a b,l=>wr b (wr a l)
 | .cond _ a b,l=>wr b (wr a l)
 | .block _ a,l|.loop a,l|.scope a,l=>wr a l
 | _,l=>l

abbrev FD (K:Env->World->Prop) (Q:Exit->Env->World->Prop):Exit->Env->World->Prop
 | .normal,ρ,w=>K ρ w
 | e,ρ,w=>Q e ρ w
abbrev TN (id:Nat) (Q:Exit->Env->World->Prop):Exit->Env->World->Prop
 | .exit id',ρ,w=>match Nat.beq id' id with
  | true=>Q .normal ρ w
  | false=>Q (.exit id') ρ w
 | e,ρ,w=>Q e ρ w

def CondV (v:Value) (A B:Prop):Prop:=match v with
 | .bool c=>if c=true then A else B
 | _=>False

def vc (P:Program):Code->An->(Exit->Env->World->Prop)->Env->World->Prop
 | .skip,_,Q,ρ,w=>Q .normal ρ w
 | .ret,_,Q,ρ,w=>Q .ret ρ w
 | .exit id,_,Q,ρ,w=>Q (.exit id) ρ w
 | .region _ ops draw,_,Q,ρ,w=>
  match draw with
  | true=>TB P ops.toList ρ w (Q .normal)
  | false=>FO P ops.toList (ops.toList.length+1) ops.toList ρ w (Q .normal)
 | .seq a b,an,Q,ρ,w=>match an.cut with
  | none=>vc P a an.l (FD (vc P b an.r Q) Q) ρ w
  | some lv=>∃ J:Cur (World->Prop) lv,vc P a an.l (FD (ap lv J) Q) ρ w/\
    oi (wr a []) ρ fun ρ'=>∀ w',ap lv J ρ' w'->vc P b an.r Q ρ' w'
 | .cond c a b,an,Q,ρ,w=>CondV (evE ρ c) (vc P a an.l Q ρ w) (vc P b an.r Q ρ w)
 | .block id a,an,Q,ρ,w=>vc P a an.l (TN id Q) ρ w
 | .loop a,an,Q,ρ,w=>∃ (I:Cur (World->Prop) an.live) (μ:Cur (World->Nat) an.live),ap an.live I ρ w/\
   oi (wr a []) ρ fun ρ'=>∀ w',ap an.live I ρ' w'->
    vc P a an.l (FD (fun ρ'' w''=>ap an.live I ρ'' w''/\ap an.live μ ρ'' w''<ap an.live μ ρ' w') Q) ρ' w'
 | _,_,_,_,_=>False
end
section
open Go

def Xk (n:Nat):Operand->Bool
 | .tmp t=>Nat.blt t n
 | _=>true
def WO:Op->Bool
 | .select _ _=>false
 | _=>true
def PO (n:Nat):Option Nat->Bool
 | some d=>Nat.blt d n
 | none=>true
def mj (j d:Nat):Nat->List Oper->Bool
 | _,[]=>true
 | i,o::os=>(Nat.beq i j || !(o.dst == some d)) && mj j d (i+1) os
def r2 (n:Nat) (all:List Oper):Option (Nat × Bool)->Bool
 | none=>true
 | some (j,_)=>match (all[j]?).bind (·.dst) with
  | some d=>Nat.blt d n && mj j d 0 all
  | none=>false
def pK (n:Nat) (all:List Oper) (o:Oper):Bool:=
 WO o.op && PO n o.dst && o.op.operands.toList.all (Xk n) && r2 n all o.guard
def WT (i:Nat):List Edge->Bool
 | []=>true
 | e::es=>(!Region.binds .any e || Nat.blt e.on i) && WT i es
def HH:Nat->List Oper->Bool
 | _,[]=>true
 | i,o::os=>WT i o.after.toList && HH (i+1) os
def mS:Nat->List Oper->Bool
 | _,[]=>true
 | i,o::os=>(match o.guard with|none=>true|some (j,_)=>Nat.blt j i) && mS (i+1) os
def D1 (n:Nat):Code->Bool
 | .skip|.ret|.exit _=>true
 | .region _ ops draw=>ops.toList.all (pK n ops.toList) && mS 0 ops.toList && (!draw || HH 0 ops.toList)
 | .seq a b=>D1 n a && D1 n b
 | .cond c a b=>Xk n c && D1 n a && D1 n b
 | .block _ a|.loop a=>D1 n a
 | _=>false

structure Rel (n:Nat) (ρ:Env) (a:Act):Prop where
 size:a.tmps.size=n
 at_:∀ t,t<n->a.tmps[t]?=some (ρ t)
 out:∀ t,n<=t->ρ t=undef
 defers:a.defers=[]

theorem Rel.eval {n:Nat} {ρ:Env} {a:Act} (h:Rel n ρ a) {x:Operand} (f:Xk n x=true):a.eval x=evE ρ x:=by
 cases x with
 | tmp t=>
  have g:t<n:=by simpa [Xk,Nat.blt_eq] using f
  simp [Act.eval,evE,Array.getD_eq_getD_getElem?,h.at_ t g]
 | _=>rfl

theorem H8 (ρ:Env) (d:Nat) (v:Value):upd ρ d v d=v:=by simp [upd]
theorem u4 (ρ:Env) {d t:Nat} (v:Value) (h:t≠d):upd ρ d v t=ρ t:=by
 have:Nat.beq t d=false:=by simpa [<- Bool.not_eq_true] using h
 simp [upd,this]

theorem Rel.put {n:Nat} {ρ:Env} {a:Act} (h:Rel n ρ a) {f:Option Nat} (hd:PO n f=true) (v:Value) :
  Rel n (xQ ρ f v) (a.put f v):=by
 cases f with
 | none=>exact h
 | some d=>
  have i:d<n:=by simpa [PO,Nat.blt_eq] using hd
  refine ⟨by simp [Act.put,h.size],fun t g=>?_,fun t g=>by rw [xQ,u4 ρ v (by omega)]; exact h.out t g,h.defers⟩;by_cases e:t=d
  ·subst e;simp [Act.put,xQ,H8,h.size,g]
  ·simp only [Act.put,xQ,u4 ρ v e];rw [abg (by omega)];exact h.at_ t g

theorem U7 {n:Nat} {ρ:Env} {a:Act} (h:Rel n ρ a) {o:Oper} (f:WO o.op=true)
  (g:o.op.operands.toList.all (Xk n)=true):execOp a.eval o=execOp (evE ρ) o:=by
 refine execOp_congr o ?_ ?_
 ·intro cs b e; rw [e] at f; simp [WO] at f
 ·intro x i;exact h.eval (eX.1 g x (Array.mem_toList_iff.2 i))

theorem Wl (ρ:Env) (o:Oper):execOp (evE ρ) o=Rw ρ o:=by
 obtain ⟨G,op,B,pos,j,q⟩:=o;cases op <;> try rfl
 case binOp op T x y u=>
  have N:∀ (x:Operand),(match (bif isC x then Operand.const (evE ρ x) else .tmp 0) with|.const _=>true|_=>false)=(match x with|.const _=>true|_=>false):=by
   intro x; cases x <;> rfl
  simp only [execOp,Rw,dH];have J:eqGuard op T x y (evE ρ x) (evE ρ y)=eqGuard op T (bif isC x then Operand.const (evE ρ x) else .tmp 0) (bif isC y then Operand.const (evE ρ y) else .tmp 0) (evE ρ x) (evE ρ y):=by
   cases x <;> cases y <;> rfl
  rw [J];exact bind_assoc _ _ _
 case build t ps=>
  simp only [execOp,Rw,bZ]
  congr 2
  exact (Gw.1 (by simp))
 case buildSlice t n ps=>
  simp only [execOp,Rw,bY]
  congr 2
  exact (Gw.1 (by simp))
 case makeFunc fn a b=>
  simp only [execOp,Rw,fT]
  congr 2
  ·exact (Gw.1 (by simp))
  ·exact (Gw.1 (by simp))
 case makeMap t r=>cases r <;> rfl
 case slice t x l h m=>cases l <;> cases h <;> cases m <;> rfl
 case call c=>
  obtain ⟨g,args,i⟩:=c;have D:args.map (evE ρ)=(args.toList.map (evE ρ)).toArray:=Gw.1 (by simp);cases g with
  | value f=>
   simp only [execOp,Rw,gX,resolve,D]
  | builtin b=>
   have M:(args.map fun (x:Operand)=>(match x with|.const _=>true|_=>false))=(args.toList.map isC).toArray:=Gw.1 (by
    simp only [Array.toList_map]
    congr 1)
   simp only [execOp,Rw,ce,resolve,D];rw [<- M];rfl
  | invoke r m=>rfl

theorem stepE.run {P:Program} {o:Oper} {ρ:Env} {w:World} {K:Value->World->Prop} (h:stepE P o ρ w K):Run P (execOp (evE ρ) o) w K:=by
 rw [Wl];obtain ⟨i,op,g,pos,a,f⟩:=o;cases op <;> exact h
theorem Run.step {P:Program} {o:Oper} {ρ:Env} {w:World} {K:Value->World->Prop} (h:Run P (execOp (evE ρ) o) w K):stepE P o ρ w K:=by
 rw [Wl] at h;obtain ⟨i,op,g,pos,a,f⟩:=o;cases op <;> exact h
theorem Run.mono {P:Program} {s:Sem Next} {w:World} {K K':Value->World->Prop} (h:Run P s w K) (hk:∀ v w,K v w->K' v w) :
  Run P s w K':=by
 unfold Run at *;split at h
 ·exact hk _ _ h
 ·exact hk _ _ h
 ·exact Calls.mono h fun e w' a=>by cases e <;> first|exact hk _ _ a|exact a
 ·exact h.elim

theorem stepE.mono {P:Program} {o:Oper} {ρ:Env} {w:World} {K K':Value->World->Prop} (h:stepE P o ρ w K) (hk:∀ v w,K v w->K' v w) :
  stepE P o ρ w K':=Run.step (Run.mono h.run hk)

theorem Run.wp {P:Program} {n:Nat} {ρ:Env} {a:Act} {w:World} {o:Oper} {K:Value->World->Prop} {next:Act->World->Prop}
  {Q:Exit->Act->World->Prop} (g:Rel n ρ a) (i:WO o.op=true) (j:o.op.operands.toList.all (Xk n)=true)
  (h:Run P (execOp (evE ρ) o) w K) (hk:∀ v w',K v w'->next (a.put o.dst v) w'):o.wp P a w next Q:=by
 unfold Oper.wp;rw [U7 g i j];unfold Run at h;split at h
 ·rename_i e; rw [e]; exact hk _ _ h
 ·rename_i e; rw [e]; exact hk _ _ h
 ·rename_i e; rw [e]
  exact Calls.mono h fun e w' f=>by cases e <;> first|exact hk _ _ f|exact f.elim
 ·exact h.elim

theorem Ai {n:Nat} {ρ:Env} {a:Act} (l:Rel n ρ a) {ops:Array Oper} {o:Oper} {A B:Prop}
  (f:r2 n ops.toList o.guard=true) (h:GuardO ops.toList ρ o.guard A B) :
  (Region.wanted o (yielded ops a.tmps)=true/\A) ∨ (Region.wanted o (yielded ops a.tmps)=false/\B):=by
 unfold Region.wanted;cases i:o.guard with
 | none=>rw [i] at h; exact .inl ⟨rfl,h⟩
 | some g=>
  obtain ⟨j,b⟩:=g;rw [i] at h f;simp only [GuardO,r2,yielded,acP] at *;cases hd:(ops[j]?).bind (·.dst) with
  | none=>rw [hd] at f; simp at f
  | some d=>
   rw [hd] at h f;simp only [aZ,Nat.blt_eq] at f;simp only [Option.bind_some,l.at_ d f.1];simp only [aF] at h;split at h
   ·rename_i c hc
    rw [hc];split at h
    ·rename_i e; subst e; exact .inl ⟨by simp,h⟩
    ·rename_i e; exact .inr ⟨by simpa using e,h⟩
   ·rename_i m
    refine .inr ⟨?_,h⟩;cases hc:ρ d <;> first|exact absurd hc (m _)|simp

theorem D9 {P:Program} {n:Nat} {ops:Array Oper} {o:Oper} {ρ:Env} {a:Act} {w:World} {K:Env->World->Prop}
  {next:Act->World->Prop} {Q:Exit->Act->World->Prop} {i:Nat} (j:ops[i]?=some o) (g:Rel n ρ a) (hf:pK n ops.toList o=true)
  (h:opE P ops.toList o ρ w K) (hk:∀ v w',K (xQ ρ o.dst v) w'->next (a.put o.dst v) w') :
  wpOp P ops Q i next a w:=by
 simp only [pK,aZ] at hf;obtain ⟨⟨⟨l,B⟩,m⟩,q⟩:=hf;unfold wpOp;rw [j];simp only [];rcases Ai g q h with ⟨f,r⟩|⟨f,t⟩
 ·rw [ai f]; exact .inl (r.run.wp g l m hk)
 ·rw [af (by simp [f])]; exact hk _ _ t

theorem uU (i m:Nat):List.range' i (m+1)=i::List.range' (i+1) m:=rfl

theorem pr {j d:Nat}:∀ (l:List Oper) (k:Nat),mj j d k l=true->∀ i o,l[i]?=some o->k+i≠j->o.dst≠some d
 | [],_,_,i,o,hi,_=>by simp at hi
 | x::xs,k,h,i,o,hi,hne=>by
  simp only [mj,aZ,jI,Nat.beq_eq,lg,beq_eq_false_iff_ne] at h;cases i with
  | zero=>
   simp only [Mq,aY] at hi;subst hi;rcases h.1 with e|e
   ·exact absurd (by simpa using e) (by omega)
   ·exact e
  | succ i=>
   rw [nL] at hi;exact pr xs (k+1) h.2 i o hi (by omega)

theorem Lh {g h:Option (Nat × Bool)}:l7 g h=true↔g=h:=by
 cases g <;> cases h <;> simp [l7,Prod.ext_iff]

theorem DU (g:Option (Nat × Bool)):∀ l:List Oper,l=grp g l++pN g l
 | []=>rfl
 | o::os=>by
  simp only [grp,pN];cases h:l7 g o.guard <;> simp;exact DU g os
theorem V6 (g:Option (Nat × Bool)):∀ (l:List Oper) (o:Oper),o∈grp g l->o.guard=g
 | [],_,h=>by simp [grp] at h
 | x::xs,o,h=>by
  simp only [grp] at h;cases e:l7 g x.guard with
  | false=>rw [e] at h; simp at h
  | true=>
   rw [e] at h;rcases cw.1 h with rfl|h
   ·exact (Lh.1 e).symm
   ·exact V6 g xs o h
theorem CR (g:Option (Nat × Bool)):∀ l:List Oper,(pN g l).length<=l.length
 | []=>by simp [pN]
 | x::xs=>by
  simp only [pN];cases l7 g x.guard
  ·simp
  ·simpa using TO (CR g xs)

section ops
variable {P:Program} {n:Nat} {ops:Array Oper} {Q:Exit->Act->World->Prop}
def I7 (n:Nat) (ops:Array Oper):Prop:=∀ o∈ops.toList,pK n ops.toList o=true

theorem Iv (hf:I7 n ops) {j d:Nat} {b:Bool} (B:(ops.toList[j]?).bind (·.dst)=some d) :
  ∀ (l:List Oper) (i:Nat) (ρ:Env) (a:Act) (w:World) (K:Env->World->Prop) (rest:List Nat),
   (∀ k o,l[k]?=some o->ops.toList[i+k]?=some o/\o.guard=some (j,b))->j<i->ρ d=.bool b->Rel n ρ a->Xc P l ρ w K->
   (∀ g U w',Rel n g U->K g w'->wpOps P ops Q rest U w')->wpOps P ops Q (List.range' i l.length++rest) a w
 | [],i,ρ,a,w,K,rest,_,_,_,hr,h,hk=>hk _ _ _ hr h
 | o::os,i,ρ,a,w,K,rest,hl,hji,hd,hr,h,hk=>by
  obtain ⟨t,O⟩:=hl 0 o rfl;rw [vo] at t;have hm:o∈ops.toList:=cJ t;have m:=hf o hm;have J:ops[i]?=some o:=by simpa using t
  have f:=m;simp only [pK,aZ] at f;obtain ⟨⟨⟨h1,Z⟩,h3⟩,G⟩:=f;have M:mj j d 0 ops.toList=true:=by
   rw [O] at G; simp only [r2,B,aZ] at G; exact G.2
  have N:o.dst≠some d:=pr _ 0 M i o t (by omega);rw [bI,uU,i8,wpOps_cons];refine D9 (ρ:=ρ) (w:=w) (K:=fun g w'=>(g d=.bool b)/\Xc P os g w' K) J hr m ?_ ?_
  ·unfold opE;rw [O];simp only [GuardO,B,aF,hd,if_true];refine stepE.mono h fun v w' r=>⟨?_,r⟩
   cases q:o.dst with
   | none=>exact hd
   | some e=>rw [xQ,u4]; exact hd; intro V; exact N (by rw [q,V])
  ·intro v w' r;exact Iv hf B os (i+1) _ _ w' K rest (fun k Y D=>by
    have:=hl (k+1) Y (by simpa using D);rw [show i+1+k=i+(k+1) by omega]; exact this) (by omega) r.1 (hr.put Z v) r.2 hk

theorem EZ (hf:I7 n ops) {j d:Nat} {b:Bool} (q:(ops.toList[j]?).bind (·.dst)=some d) :
  ∀ (l:List Oper) (i:Nat) (ρ:Env) (a:Act) (w:World) (rest:List Nat),
   (∀ k o,l[k]?=some o->ops.toList[i+k]?=some o/\o.guard=some (j,b))->j<i->ρ d≠.bool b->Rel n ρ a->
   (∀ N,Rel n (Qk l ρ) N->wpOps P ops Q rest N w)->wpOps P ops Q (List.range' i l.length++rest) a w
 | [],i,ρ,a,w,rest,_,_,_,hr,hk=>hk _ hr
 | o::os,i,ρ,a,w,rest,hl,hji,hd,hr,hk=>by
  obtain ⟨m,M⟩:=hl 0 o rfl;rw [vo] at m;have Y:o∈ops.toList:=cJ m;have t:=hf o Y;have B:ops[i]?=some o:=by simpa using m
  have f:=t;simp only [pK,aZ] at f;obtain ⟨⟨⟨h1,V⟩,h3⟩,g⟩:=f;have D:mj j d 0 ops.toList=true:=by
   rw [M] at g; simp only [r2,q,aZ] at g; exact g.2
  have G:o.dst≠some d:=pr _ 0 D i o m (by omega);have J:xQ ρ o.dst undef d=ρ d:=by
   cases h:o.dst with
   | none=>rfl
   | some e=>rw [xQ,u4]; intro O; exact G (by rw [h,O])
  rw [bI,uU,i8,wpOps_cons];have Z:=g;have hB:GuardO ops.toList ρ o.guard False True:=by
   rw [M]; simp only [GuardO,q,aF];split
   ·rename_i c hc
    split
    ·rename_i e; subst e; exact absurd hc hd
    ·trivial
   ·trivial
  rcases Ai hr g hB with ⟨_,hF⟩|⟨hw,_⟩
  ·exact hF.elim
  ·unfold wpOp;rw [B];simp only [hw,H2,if_false];exact EZ hf q os (i+1) _ _ w rest (fun k U r=>by
    have:=hl (k+1) U (by simpa using r);rw [show i+1+k=i+(k+1) by omega]; exact this) (by omega) (by rw [J]; exact hd) (hr.put V undef) hk

theorem uy:∀ (l:List Oper) (k:Nat),mS k l=true->∀ i o j b,l[i]?=some o->o.guard=some (j,b)->j<k+i
 | [],_,_,i,o,_,_,hi,_=>by simp at hi
 | x::xs,k,h,i,o,j,b,hi,hg=>by
  simp only [mS,aZ] at h;cases i with
  | zero=>
   simp only [Mq,aY] at hi;subst hi;have:=h.1;rw [hg] at this;simpa [Nat.blt_eq] using this
  | succ i=>
   rw [nL] at hi;have:=uy xs (k+1) h.2 i o j b hi hg;omega

theorem R1 (hf:I7 n ops) (hb:mS 0 ops.toList=true) :
  ∀ (m:Nat) (l:List Oper) (i:Nat) (ρ:Env) (a:Act) (w:World) (K:Env->World->Prop),l.length<m->
   ops.toList.drop i=l->Rel n ρ a->FO P ops.toList m l ρ w K->
   (∀ M N w',Rel n M N->K M w'->Q .normal N w')->wpOps P ops Q (List.range' i l.length) a w:=by
 intro m;induction m with
 | zero=>intro l i ρ a w K G; omega
 | succ m ih=>
  intro l i ρ a w K G hl U h hk;cases l with
  | nil=>exact hk _ _ _ U h
  | cons o os=>
   have r:∀ k,(o::os)[k]?=ops.toList[i+k]?:=fun k=>by rw [<- hl,AW]
   have h0:ops.toList[i]?=some o:=by have:=r 0; simpa using this.symm
   have hm:o∈ops.toList:=cJ h0;have V:=hf o hm;have a1:ops[i]?=some o:=by simpa using h0
   have t:=V;simp only [pK,aZ] at t;obtain ⟨⟨⟨h1,h2⟩,h3⟩,h4⟩:=t;have a2:ops.toList.drop (i+1)=os:=by rw [<- Wm,hl]; rfl
   simp only [FO] at h ih;cases O:o.guard with
   | none=>
    rw [O] at h;simp only [] at h;rw [bI,uU,wpOps_cons];refine D9 (ρ:=ρ) (w:=w) (K:=fun M w'=>FO P ops.toList m os M w' K) a1 U V ?_ ?_
    ·unfold opE; rw [O]; exact h
    ·intro v w' hh;exact ih os (i+1) _ _ w' K (by simp at G; omega) a2 (U.put h2 v) hh hk
   | some g=>
    obtain ⟨j,b⟩:=g;rw [O] at h;simp only [] at h;have f:=DU (some (j,b)) os;have Y:j<i:=by have:=uy _ 0 hb i o j b h0 O; omega
    obtain ⟨d,hj⟩:∃ d,(ops.toList[j]?).bind (·.dst)=some d:=by
     rw [O] at h4;simp only [r2] at h4;cases hd:(ops.toList[j]?).bind (·.dst) with
     | none=>rw [hd] at h4; simp at h4
     | some d=>exact ⟨d,rfl⟩
    have B:∀ k x,(o::grp (some (j,b)) os)[k]?=some x->ops.toList[i+k]?=some x/\x.guard=some (j,b):=by
     intro k x hx;have a3:(o::os)[k]?=some x:=by
      rw [f,<- i8,vA]
      ·exact hx
      ·exact (fS.1 hx).1
     refine ⟨by rw [<- r k]; exact a3,?_⟩;rcases cw.1 (cJ hx) with rfl|a0
     ·exact O
     ·exact V6 _ _ _ a0
    have Z:(o::os).length=(o::grp (some (j,b)) os).length+(pN (some (j,b)) os).length:=by
     have:=congrArg List.length f;simp only [bK] at this;simp only [bI]; omega
    have q:ops.toList.drop (i+(o::grp (some (j,b)) os).length)=pN (some (j,b)) os:=by
     rw [<- Wm,hl];have e:o::os=(o::grp (some (j,b)) os)++pN (some (j,b)) os:=by rw [i8,<- f]
     rw [e,WP]
    have D:(pN (some (j,b)) os).length<m:=by
     have:=CR (some (j,b)) os;simp at G; omega
    rw [Z,<- List.range'_append_1];simp only [GuardO,hj] at h;by_cases hd:ρ d=.bool b
    ·rw [hd] at h;simp only [aF,if_true] at h;exact Iv hf hj _ i ρ a w _ _ B Y hd U h fun M N w' J hh=>ih _ _ M N w' K D q J hh hk
    ·have hB:FO P ops.toList m (pN (some (j,b)) os) (Qk (o::grp (some (j,b)) os) ρ) w K:=by
      simp only [aF] at h;split at h
      ·rename_i c hc
       split at h
       ·rename_i e; subst e; exact absurd hc hd
       ·exact h
      ·exact h
     exact EZ hf hj _ i ρ a w _ B Y hd U fun N J=>ih _ _ _ N w K D q J hB hk

theorem zK:∀ (l:List Edge) {D:Nat->Bool} {p:Prop},yQ l D p->(∀ e∈l,Region.binds .any e=true->D e.on=true)->p
 | [],_,_,h,_=>h
 | e::es,D,p,h,hd=>by
  simp only [yQ] at h;cases g:Region.binds .any e with
  | false=>rw [g] at h; exact zK es h fun f a=>hd f (bk _ a)
  | true=>rw [g] at h; exact zK es (h (hd e (bi ..) g)) fun f a=>hd f (bk _ a)
theorem AD {D:Nat->Bool} {p:Prop}:∀ n:Nat,Ao n D p->(∀ i,i<n->D i=true)->p
 | 0,h,_=>h
 | n+1,h,hd=>AD n (h (hd n (Vw n))) fun i a=>hd i (by omega)
def WM (P:Program) (all:List Oper) (A:(Nat->Bool)->Env->World->Prop):Nat->List Oper->Prop
 | _,[]=>True
 | i,o::os=>(∀ D ρ w,D i=false->yQ o.after.toList D (A D ρ w->opE P all o ρ w fun ρ' w'=>A (aC D i) ρ' w'))/\WM P all A (i+1) os
theorem zc {A:(Nat->Bool)->Env->World->Prop} {all:List Oper}:∀ (l:List Oper) (k i:Nat) (o:Oper),WM P all A k l->l[i]?=some o->
  ∀ D ρ w,D (k+i)=false->yQ o.after.toList D (A D ρ w->opE P all o ρ w fun a w'=>A (aC D (k+i)) a w')
 | [],_,i,_,_,hi=>by simp at hi
 | x::xs,k,0,o,h,hi=>by
  simp only [Mq,aY] at hi;subst hi;exact h.1
 | x::xs,k,i+1,o,h,hi=>by
  rw [nL] at hi;have:=zc xs (k+1) i o h.2 hi;rw [show k+1+i=k+(i+1) by omega] at this;exact this
theorem LL:∀ (l:List Edge) {i:Nat},WT i l=true->∀ e∈l,Region.binds .any e=true->e.on<i
 | [],_,_,e,a=>by simp at a
 | x::xs,i,h,e,a=>by
  simp only [WT,aZ,jI,lg,Nat.blt_eq] at h;rcases cw.1 a with rfl|a
  ·intro g;rcases h.1 with f|f
   ·rw [f] at g; cases g
   ·exact f
  ·exact LL xs h.2 e a
theorem MJ:∀ (l:List Oper) (k:Nat),HH k l=true->∀ i o,l[i]?=some o->∀ e∈o.after.toList,Region.binds .any e=true->e.on<k+i
 | [],_,_,i,o,hi=>by simp at hi
 | x::xs,k,h,i,o,hi=>by
  simp only [HH,aZ] at h;cases i with
  | zero=>
   simp only [Mq,aY] at hi;subst hi;exact fun e a=>LL _ h.1 e a
  | succ i=>
   rw [nL] at hi;intro e a f;have:=MJ xs (k+1) h.2 i o hi e a f;omega

theorem De {ops:Array Oper} {a:Array Bool} {i:Nat}:i∈Region.ready .any ops a ↔
  i<ops.size/\a.getD i true=false/\∃ o,ops[i]?=some o/\∀ e∈o.after.toList,Region.binds .any e=true->a.getD e.on false=true:=by
 simp only [Region.ready,OR,List.mem_range,aZ,lg];constructor
 ·rintro ⟨f,j,g⟩;refine ⟨f,j,ops[i],by simp [f],fun e m h=>?_⟩;simp only [f,getElem?_pos,zH,O3,Array.all_eq_true] at g;obtain ⟨k,hk,rfl⟩:=CV m;have:=g k (by simpa using hk);simp only [Array.getElem_toList] at h ⊢;rw [h] at this;simpa using this
 ·rintro ⟨f,j,o,l,g⟩;refine ⟨f,j,?_⟩;rw [l];simp only [zH,O3,Array.all_eq_true];intro k hk;cases h:Region.binds .any (o.after[k]) with
  | false=>simp
  | true=>simpa using g _ (by simp) h

theorem Uu {ops:Array Oper} {a:Array Bool} (l:a.size=ops.size) (m:HH 0 ops.toList=true)
  (h:Region.ready .any ops a=[]):∀ i,i<ops.size->a.getD i false=true:=by
 intro i;induction i using Nat.strongRecOn with
 | _ i q=>
  intro f;by_cases hl:a.getD i false=true
  ·exact hl
  ·exfalso;have j:i<a.size:=by omega
   have:i∈Region.ready .any ops a:=by
    rw [De];refine ⟨f,?_,ops[i],by simp [f],fun e o g=>?_⟩
    ·simpa [Array.getD_eq_getD_getElem?,j] using hl
    ·have:=MJ _ 0 m i ops[i] (by simp [f]) e o g;exact q e.on (by omega) (by omega)
   rw [h] at this;simp at this

theorem Y4 {a:Array Bool} {i:Nat} (f:i<a.size) (j:Nat) :
  (a.setIfInBounds i true).getD j false=aC (fun j=>a.getD j false) i j:=by
 simp only [aC,Array.getD_eq_getD_getElem?];by_cases e:j=i
 ·subst e;simp [f]
 ·rw [abg (by omega)];simp [e]

theorem Ux (hf:I7 n ops) (hb:HH 0 ops.toList=true) {A:(Nat->Bool)->Env->World->Prop}
  (hA:WM P ops.toList A 0 ops.toList) 
  (hQ:∀ D ρ a w,Rel n ρ a->(∀ i,i<ops.size->D i=true)->A D ρ w->Q .normal a w) :
  ∀ (fuel:Nat) (f:Array Bool) (ρ:Env) (a:Act) (w:World),f.size=ops.size->Rel n ρ a->A (fun j=>f.getD j false) ρ w->
   (∀ k,k+fuel=ops.size->k<=(f.toList.filter id).length)->
   wpAny P .any ops Q fuel f a w:=by
 intro fuel;induction fuel with
 | zero=>
  intro f ρ a w t J h g;have hc:=g ops.size (by omega);have r:∀ i,i<ops.size->f.getD i false=true:=by
   intro i U;have a3:(f.toList.filter id).length<=f.toList.length:=ZR _ _;have Z:(f.toList.filter id).length=f.toList.length:=by simp at *; omega
   have:=(List.length_filter_eq_length_iff.1 Z) (f[i]) (by simp)
   simpa [Array.getD_eq_getD_getElem?,show i<f.size by omega] using this
  refine ⟨?_,hQ _ ρ a w J r h⟩;cases a1:Region.ready .any ops f with
  | nil=>rfl
  | cons x xs=>
   have hx:x∈Region.ready .any ops f:=by rw [a1]; simp
   rw [De] at hx;have h1:=r x hx.1;have N:=hx.2.1;have a0:x<f.size:=by omega
   simp [Array.getD_eq_getD_getElem?,a0] at h1 N;rw [h1] at N; simp at N
 | succ fuel ih=>
  intro f ρ a w t J h g;refine ⟨fun M=>hQ _ ρ a w J (Uu t hb M) h,fun i U=>?_⟩;rw [De] at U;obtain ⟨a2,V,o,ho,Y⟩:=U;have m:i<f.size:=by omega
  have hD:f.getD i false=false:=by
   simpa [Array.getD_eq_getD_getElem?,m] using V
  have O:ops.toList[i]?=some o:=by simpa using ho
  have l:=zc ops.toList 0 i o hA O (fun j=>f.getD j false) ρ w (by simpa using hD);rw [dr] at l;have q:=zK _ l Y h;have B:=hf o (cJ O);have N:PO n o.dst=true:=by
   simp only [pK,aZ] at B; exact B.1.1.2
  refine D9 ho J B q fun v w' hh=>?_;refine ih _ _ _ _ (by simpa using t) (J.put N v) (by rw [show (fun j=>(f.setIfInBounds i true).getD j false)=aC (fun j=>f.getD j false) i from funext (Y4 m)]; exact hh) ?_;intro k hk;have hc:=g (k - 1);have:(f.toList.filter id).length+1<=((f.setIfInBounds i true).toList.filter id).length:=by
   have G:(f.setIfInBounds i true).toList=f.toList.set i true:=by simp
   rw [G];have hg:f.toList[i]?=some false:=by
    have:f[i]?=some false:=by
     simp [Array.getD_eq_getD_getElem?,m] at hD;simp [m,hD]
    simpa using this
   exact aux i _ hg
  by_cases a4:k=0
  ·omega
  ·have:=hc (by omega);omega
where
 aux:∀ (i:Nat) (xs:List Bool),xs[i]?=some false->(xs.filter id).length+1<=((xs.set i true).filter id).length
  | i,[],h=>by simp at h
  | 0,x::xs,h=>by simp at h; subst h; simp
  | i+1,x::xs,h=>by
   simp only [nL] at h;have:=aux i xs h;simp only [OQ,wH];split <;> simp <;> omega
end ops
end
section
open Go

def Wo (l:List Oper) (t:Nat):Prop:=∃ o∈l,o.dst=some t
def Wc:Code->Nat->Prop
 | .region _ ops _,t=>Wo ops.toList t
 | .seq a b,t|.cond _ a b,t=>Wc a t ∨ Wc b t
 | .block _ a,t|.loop a,t|.scope a,t=>Wc a t
 | _,_=>False

theorem oA {t:Nat}:∀ (ops:List Oper) (l:List Nat),t∈re ops l↔t∈l ∨ Wo ops t
 | [],l=>by simp [re,Wo]
 | o::os,l=>by
  simp only [re];cases hd:o.dst with
  | none=>
   rw [oA os l];simp [Wo,hd]
  | some d=>
   simp only [];cases f:l.elem d with
   | true=>
    have a:d∈l:=by simpa using f
    simp only [];rw [oA os l];simp only [Wo,cw,exists_eq_or_imp,hd,aY];constructor
    ·rintro (h|h)
     ·exact .inl h
     ·exact .inr (.inr h)
    ·rintro (h|h|h)
     ·exact .inl h
     ·subst h; exact .inl a
     ·exact .inr h
   | false=>
    simp only [];rw [oA os (d::l)];simp only [Wo,cw,exists_eq_or_imp,hd,aY];constructor
    ·rintro ((h|h)|h)
     ·exact .inr (.inl h.symm)
     ·exact .inl h
     ·exact .inr (.inr h)
    ·rintro (h|h|h)
     ·exact .inl (.inr h)
     ·exact .inl (.inl h.symm)
     ·exact .inr h

theorem oP {t:Nat}:∀ (c:Code) (l:List Nat),t∈wr c l↔t∈l ∨ Wc c t
 | .region _ ops _,l=>oA ops.toList l
 | .seq a b,l=>by simp only [wr,Wc]; rw [oP b,oP a,or_assoc]
 | .cond _ a b,l=>by simp only [wr,Wc]; rw [oP b,oP a,or_assoc]
 | .block _ a,l=>by simp only [wr,Wc]; exact oP a l
 | .loop a,l=>by simp only [wr,Wc]; exact oP a l
 | .scope a,l=>by simp only [wr,Wc]; exact oP a l
 | .skip,l|.ret,l|.exit _,l|.label _,l|.goto _,l|.refuse _,l|.rangeFunc ..,l=>by simp [wr,Wc]

def Agr (W:Nat->Prop) (ρ ρ':Env):Prop:=∀ t,¬ W t->ρ' t=ρ t
theorem Agr.refl (W:Nat->Prop) (ρ:Env):Agr W ρ ρ:=fun _ _=>rfl
theorem Agr.trans {W:Nat->Prop} {ρ f a:Env} (h:Agr W ρ f) (i:Agr W f a):Agr W ρ a:=fun t g=>(i t g).trans (h t g)
theorem Agr.mono {W W':Nat->Prop} {ρ a:Env} (h:Agr W ρ a) (f:∀ t,W t->W' t):Agr W' ρ a:=fun t g=>h t fun i=>g (f t i)
theorem Agr.put {W:Nat->Prop} (ρ:Env) (a:Option Nat) (v:Value) (h:∀ d,a=some d->W d):Agr W ρ (xQ ρ a v):=by
 cases a with
 | none=>exact Agr.refl _ _
 | some d=>exact fun t f=>u4 ρ v fun e=>f (e ▸ h d rfl)

theorem gB:∀ (l:List Nat) (ρ:Env) (p:Env->Prop),oi l ρ p->∀ a,(∀ t,t ∉ l->a t=ρ t)->p a
 | [],ρ,p,h,a,e=>by have:a=ρ:=funext fun t=>e t (by simp); rw [this]; exact h
 | m::l,ρ,p,h,a,e=>by
  refine gB l (upd ρ m (a m)) p (h (a m)) a fun t g=>?_;by_cases f:t=m
  ·subst f; rw [H8]
  ·rw [u4 _ _ f]; exact e t (by simp [f,g])
theorem mx:∀ (l:List Nat) (ρ:Env) (p:Env->Prop),(∀ a,(∀ t,t ∉ l->a t=ρ t)->p a)->oi l ρ p
 | [],ρ,p,h=>h ρ fun _ _=>rfl
 | m::l,ρ,p,h=>fun x=>mx l _ p fun a e=>h a fun t i=>by
   have g:t≠m:=fun f=>i (by rw [f]; exact bi ..);rw [e t (fun f=>i (bk _ f)),u4 _ _ g]

theorem GuardO.mono {ops:List Oper} {ρ:Env} {g:Option (Nat × Bool)} {A B A' B':Prop} (h:GuardO ops ρ g A B) (f:A->A') (a:B->B') :
  GuardO ops ρ g A' B':=by
 unfold GuardO aF at *;split
 ·exact f h
 ·rename_i j b
  simp only [] at h;split
  ·rename_i d hd
   rw [hd] at h;simp only [] at h;split
   ·rename_i c hc
    rw [hc] at h;simp only [] at h;split
    ·rename_i e; rw [ai e] at h; exact f h
    ·rename_i e; rw [af e] at h; exact a h
   ·rename_i i
    split at h
    ·rename_i c hc; exact absurd hc (i c)
    ·exact a h
  ·rename_i hd
   rw [hd] at h;exact a h

section mono
variable {P:Program}
theorem LO:∀ (l:List Oper) (ρ:Env) (w:World) (K K':Env->World->Prop),Xc P l ρ w K->
  (∀ a w',Agr (Wo l) ρ a->K a w'->K' a w')->Xc P l ρ w K'
 | [],ρ,w,K,K',h,hk=>hk _ _ (Agr.refl _ _) h
 | o::os,ρ,w,K,K',h,hk=>by
  refine stepE.mono h fun v w' g=>LO os _ w' K K' g fun a f i=>hk a f ?_;exact (Agr.put ρ o.dst v fun d hd=>⟨o,bi ..,hd⟩).trans
   (i.mono fun t ⟨j,m,q⟩=>⟨j,bk _ m,q⟩)
theorem MR:∀ (l:List Oper) (ρ:Env),Agr (Wo l) ρ (Qk l ρ)
 | [],_=>Agr.refl _ _
 | o::os,ρ=>(Agr.put ρ o.dst undef fun _ hd=>⟨o,bi ..,hd⟩).trans
   ((MR os _).mono fun _ ⟨a,f,g⟩=>⟨a,bk _ f,g⟩)

theorem Tv {all:List Oper}:∀ (m:Nat) (l:List Oper) (ρ:Env) (w:World) (K K':Env->World->Prop),FO P all m l ρ w K->
  (∀ j w',Agr (Wo l) ρ j->K j w'->K' j w')->FO P all m l ρ w K':=by
 intro m;induction m with
 | zero=>intro l ρ w K K' h; exact h.elim
 | succ m G=>
  intro l ρ w K K' h hk;cases l with
  | nil=>exact hk _ _ (Agr.refl _ _) h
  | cons o os=>
   simp only [FO] at h G ⊢;cases V:o.guard with
   | none=>
    rw [V] at h;simp only [] at h ⊢;refine stepE.mono h fun v w' q=>G os _ w' K K' q fun j a J=>hk j a ?_;exact (Agr.put ρ o.dst v fun d hd=>⟨o,bi ..,hd⟩).trans
     (J.mono fun t ⟨r,B,D⟩=>⟨r,bk _ B,D⟩)
   | some g=>
    rw [V] at h;simp only [] at h ⊢;have N:=DU (some g) os;have O:∀ t,Wo (o::grp (some g) os) t->Wo (o::os) t:=fun t ⟨r,B,D⟩=>⟨r,by
     rw [N,<- i8]; exact dO _ B,D⟩
    have U:∀ t,Wo (pN (some g) os) t->Wo (o::os) t:=fun t ⟨r,B,D⟩=>⟨r,by
     rw [N,<- i8]; exact im _ B,D⟩
    refine GuardO.mono h (fun q=>?_) (fun q=>?_)
    ·refine LO _ _ _ _ _ q fun j w' J M=>G _ _ _ K K' M fun f a i=>hk f a ?_;exact (J.mono O).trans (i.mono U)
    ·refine G _ _ _ K K' q fun f a i=>hk f a ?_;exact ((MR _ _).mono O).trans (i.mono U)

theorem zQ:∀ (l:List Edge) {D:Nat->Bool} {p q:Prop},yQ l D p->(p->q)->yQ l D q
 | [],_,_,_,h,hq=>hq h
 | e::es,D,p,q,h,hq=>by
  simp only [yQ] at h ⊢;cases a:Region.binds .any e with
  | false=>rw [a] at h; exact zQ es h hq
  | true=>rw [a] at h; exact fun hd=>zQ es (h hd) hq
theorem CC {D:Nat->Bool} {p q:Prop}:∀ n:Nat,Ao n D p->(p->q)->Ao n D q
 | 0,h,hq=>hq h
 | n+1,h,hq=>fun hd=>CC n (h hd) hq
theorem Zj {all:List Oper} {o:Oper} {ρ:Env} {w:World} {K K':Env->World->Prop} (h:opE P all o ρ w K)
  (hk:∀ v w',K (xQ ρ o.dst v) w'->K' (xQ ρ o.dst v) w'):opE P all o ρ w K':=
 GuardO.mono h (fun a=>stepE.mono a fun v w'=>hk v w') (hk _ _)
theorem NZ:∀ (l:List Nat) (ρ:Env) {p q:Env->Prop},oi l ρ p->(∀ a,(∀ t,t ∉ l->a t=ρ t)->p a->q a)->oi l ρ q:=
 fun l ρ p _ h f=>mx l ρ _ fun a e=>f a e (gB l ρ p h a e)
theorem QD {ops:List Oper} {ρ:Env} {w:World} {K K':Env->World->Prop} (h:TB P ops ρ w K)
  (hk:∀ a w',Agr (Wo ops) ρ a->K a w'->K' a w'):TB P ops ρ w K':=by
 obtain ⟨A,o,q,r⟩:=h;refine ⟨A,o,q,fun D=>?_⟩;refine CC _ (r D) fun g=>NZ _ _ g fun a f i w' j=>hk a w' (fun t l=>f t fun m=>l ?_) (i w' j);exact ((oA ops []).1 m).resolve_left (by simp)
theorem y8 {all:List Oper} {M:List Nat} {A:(Nat->Bool)->Cur (World->Prop) M} {ρ:Env} (m:∀ t,Wo all t->t∈M):∀ (l:List Oper) (i:Nat),(∀ t,Wo l t->Wo all t)->
  Eo P all M A ρ i l->WM P all (fun D a w'=>ap M (A D) a w'/\Agr (Wo all) ρ a) i l
 | [],_,_,_=>trivial
 | o::os,i,hw,h=>by
  refine ⟨fun D a w' q=>?_,y8 m os (i+1) (fun t ⟨r,f,B⟩=>hw t ⟨r,bk _ f,B⟩) h.2⟩;refine zQ _ (h.1 D q) fun G g=>?_;have f:=gB _ _ _ G a (fun t J=>g.2 t fun j=>J (m t j)) w' g.1;exact Zj f fun v N O=>⟨O,g.2.trans (Agr.put a o.dst v fun d hd=>hw d ⟨o,bi ..,hd⟩)⟩

theorem CondV.mono {v:Value} {A B A' B':Prop} (h:CondV v A B) (a:A->A') (f:B->B'):CondV v A' B':=by
 unfold CondV at *;split
 ·rename_i c
  simp only [] at h;split
  ·rename_i e; rw [ai e] at h; exact a h
  ·rename_i e; rw [af e] at h; exact f h
 ·rename_i g
  split at h
  ·rename_i c; exact absurd rfl (g c)
  ·exact h

theorem mV {K K':Env->World->Prop} {Q Q':Exit->Env->World->Prop} {ρ:Env} {w:World} (hk:K ρ w->K' ρ w)
  (a:∀ e,Q e ρ w->Q' e ρ w):∀ e,FD K Q e ρ w->FD K' Q' e ρ w:=by
 intro e;cases e <;> first|exact hk|exact a _

theorem mD:∀ (c:Code) (j:An) (Q Q':Exit->Env->World->Prop) (ρ:Env) (w:World),vc P c j Q ρ w->
  (∀ e f w',Agr (Wc c) ρ f->Q e f w'->Q' e f w')->vc P c j Q' ρ w
 | .skip,j,Q,Q',ρ,w,h,hq=>hq _ _ _ (Agr.refl _ _) h
 | .ret,j,Q,Q',ρ,w,h,hq=>hq _ _ _ (Agr.refl _ _) h
 | .exit id,j,Q,Q',ρ,w,h,hq=>hq _ _ _ (Agr.refl _ _) h
 | .region id ops draw,j,Q,Q',ρ,w,h,hq=>by
  simp only [vc] at h ⊢;cases draw with
  | true=>exact QD h fun f w' g=>hq _ f w' g
  | false=>exact Tv _ _ _ _ _ _ (by simpa only [cond_false] using h) fun f w' g=>hq _ f w' g
 | .seq a b,j,Q,Q',ρ,w,h,hq=>by
  simp only [vc] at h ⊢;cases hc:j.cut with
  | none=>
   rw [hc] at h;simp only [] at h ⊢;refine mD a _ _ _ ρ w h fun e f w' g=>?_;refine mV (fun i=>?_) (fun r i=>hq r f w' (g.mono fun t=>.inl) i) e;exact mD b _ _ _ f w' i fun r l m o=>hq r l m ((g.mono fun t=>.inl).trans (o.mono fun t=>.inr))
  | some Y=>
   rw [hc] at h;simp only [] at h ⊢;obtain ⟨J,G,M⟩:=h;refine ⟨J,?_,?_⟩
   ·refine mD a _ _ _ ρ w G fun e f w' g=>?_;exact mV id (fun r i=>hq r f w' (g.mono fun t=>.inl) i) e
   ·refine mx _ _ _ fun f q w' O=>?_;have g:Agr (Wc a) ρ f:=fun t B=>q t fun D=>B (((oP a []).1 D).resolve_left (by simp));exact mD b _ _ _ f w' (gB _ _ _ M f q w' O) fun r l m o=>
     hq r l m ((g.mono fun t=>.inl).trans (o.mono fun t=>.inr))
 | .cond x a b,j,Q,Q',ρ,w,h,hq=>by
  simp only [vc] at h ⊢;exact CondV.mono h (fun i=>mD a _ _ _ ρ w i fun e f w' g=>hq e f w' (g.mono fun t=>.inl))
   (fun i=>mD b _ _ _ ρ w i fun e f w' g=>hq e f w' (g.mono fun t=>.inr))
 | .block id a,j,Q,Q',ρ,w,h,hq=>by
  simp only [vc] at h ⊢;refine mD a _ _ _ ρ w h fun e f w' g i=>?_;cases e with
  | exit N=>
   simp only [TN] at i ⊢;cases V:Nat.beq N id <;> rw [V] at i <;> exact hq _ f w' g i
  | _=>exact hq _ f w' g i
 | .loop a,j,Q,Q',ρ,w,h,hq=>by
  simp only [vc] at h ⊢;obtain ⟨I,μ,G,M⟩:=h;refine ⟨I,μ,G,mx _ _ _ fun f q w' U=>?_⟩;have g:Agr (Wc a) ρ f:=fun t B=>q t fun D=>B (((oP a []).1 D).resolve_left (by simp));refine mD a _ _ _ f w' (gB _ _ _ M f q w' U) fun e l m o=>?_;exact mV id (fun r i=>hq r l m (g.trans o) i) e
 | .scope ..,_,_,_,_,_,h,_|.label ..,_,_,_,_,_,h,_|.goto ..,_,_,_,_,_,h,_|.refuse ..,_,_,_,_,_,h,_
 | .rangeFunc ..,_,_,_,_,_,h,_=>h.elim
end mono

def Ml (a:Act):Env:=fun t=>a.tmps.getD t undef
theorem Rel.env {n:Nat} {ρ:Env} {a:Act} (h:Rel n ρ a):ρ=Ml a:=by
 funext t
 by_cases f:t<n
 ·simp [Ml,Array.getD_eq_getD_getElem?,h.at_ t f]
 ·rw [h.out t (by omega)];simp [Ml,Array.getD_eq_getD_getElem?,h.size,show ¬ t<n from f]

section sound
variable {P:Program} {n:Nat}
def post (n:Nat) (Q:Exit->Env->World->Prop):Exit->Act->World->Prop:=fun e a w=>∃ ρ,Rel n ρ a/\Q e ρ w

theorem Dw {K:Env->World->Prop} {Q:Exit->Env->World->Prop} {next:Act->World->Prop} {Q':Exit->Act->World->Prop} {a:Act} {w:World}
  (hk:∀ ρ,Rel n ρ a->K ρ w->next a w) (g:∀ e ρ,Rel n ρ a->Q e ρ w->Q' e a w):∀ e,post n (FD K Q) e a w->Exit.then next Q' e a w:=by
 rintro e ⟨ρ,f,h⟩;cases e <;> first|exact hk ρ f h|exact g _ ρ f h

theorem li (G:P.follows .mixedOrders=true):∀ (c:Code) (q:An) (Q:Exit->Env->World->Prop) (ρ:Env) (w:World) (a:Act),Rel n ρ a->
  D1 n c=true->vc P c q Q ρ w->c.wp P (post n Q) a w
 | .skip,q,Q,ρ,w,a,hr,_,h=>wp_skip ⟨ρ,hr,h⟩
 | .ret,q,Q,ρ,w,a,hr,_,h=>wp_ret ⟨ρ,hr,h⟩
 | .exit id,q,Q,ρ,w,a,hr,_,h=>wp_exit ⟨ρ,hr,h⟩
 | .region id ops draw,q,Q,ρ,w,a,hr,hf,h=>by
  simp only [D1,aZ,jI,lg] at hf;obtain ⟨⟨a1,a2⟩,a3⟩:=hf;have a0:I7 n ops:=fun o ho=>eX.1 a1 o ho;simp only [vc] at h;cases draw with
  | true=>
   obtain ⟨A,Y,Z,h3⟩:=h;have hb:HH 0 ops.toList=true:=by simpa using a3
   refine wp_region_any G ?_;have hW:∀ t,Wo ops.toList t->t∈re ops.toList []:=fun t M=>(oA _ _).2 (.inr M);refine Ux a0 hb (y8 hW _ 0 (fun _ h=>h) Z) ?_ _ _ ρ a _ (by simp) hr ?_ ?_
   ·intro D g B w' f hD hA;have h4:=AD _ (h3 D) (fun i hi=>hD i (by simpa using hi));exact ⟨g,f,gB _ _ _ h4 g (fun t M=>hA.2 t fun V=>M (hW t V)) w' hA.1⟩
   ·have:(fun j=>(Array.replicate ops.size false).getD j false)=fun _=>false:=by
     funext j
     simp only [Array.getD_eq_getD_getElem?,Array.getElem?_replicate];split <;> rfl
    rw [this]; exact ⟨Y,Agr.refl _ _⟩
   ·intro k hk; omega
  | false=>
   refine wp_region ?_;have:=R1 (Q:=post n Q) a0 a2 _ ops.toList 0 ρ a w _ (Vw _) rfl hr h fun g B w' f l=>⟨g,f,l⟩
   simpa [List.range_eq_range'] using this
 | .seq x y,q,Q,ρ,w,a,hr,hf,h=>by
  simp only [D1,aZ] at hf;simp only [vc] at h;cases hc:q.cut with
  | none=>
   rw [hc] at h;simp only [] at h;refine wp_seq (wp_mono (li G x _ _ ρ w a hr hf.1 h) fun e B w'=>?_);exact Dw (fun g f l=>li G y _ _ g w' B f hf.2 l) (fun e' g f l=>⟨g,f,l⟩) e
  | some lv=>
   rw [hc] at h;simp only [] at h;obtain ⟨J,Y,Z⟩:=h;have a4:=mD x _ _ (FD (fun g w'=>ap lv J g w'/\Agr (Wc x) ρ g) Q) ρ w Y fun e g w' ha=>
    mV (fun l=>⟨l,ha⟩) (fun _=>id) e
   refine wp_seq (wp_mono (li G x _ _ ρ w a hr hf.1 a4) fun e B w'=>?_);refine Dw (fun g f l=>?_) (fun e' g f l=>⟨g,f,l⟩) e;refine li G y _ _ g w' B f hf.2 (gB _ _ _ Z g (fun t M=>l.2 t fun V=>M ?_) w' l.1);exact (oP x []).2 (.inr V)
 | .cond x c d,q,Q,ρ,w,a,hr,hf,h=>by
  simp only [D1,aZ] at hf;simp only [vc] at h;have he:=hr.eval hf.1.1;unfold CondV at h;split at h
  ·rename_i t M
   rw [M] at he;refine wp_cond he ?_;split at h
   ·rename_i e; rw [ai e]; exact li G c _ _ ρ w a hr hf.1.2 h
   ·rename_i e; rw [af e]; exact li G d _ _ ρ w a hr hf.2 h
  ·exact h.elim
 | .block id c,q,Q,ρ,w,a,hr,hf,h=>by
  simp only [D1] at hf;simp only [vc] at h;refine wp_block (wp_mono (li G c _ _ ρ w a hr hf h) fun e B w'=>?_);rintro ⟨g,f,l⟩;cases e with
  | exit O=>
   simp only [TN] at l;simp only [Exit.inBlock];by_cases e:O=id
   ·have:Nat.beq O id=true:=by simpa using e
    rw [this] at l;rw [ai e]; exact ⟨g,f,l⟩
   ·have:Nat.beq O id=false:=by simpa [<- Bool.not_eq_true] using e
    rw [this] at l;rw [af e]; exact ⟨g,f,l⟩
  | _=>exact ⟨g,f,l⟩
 | .loop c,q,Q,ρ,w,a,hr,hf,h=>by
  simp only [D1] at hf;simp only [vc] at h;obtain ⟨I,μ,Y,Z⟩:=h;refine wp_loop (fun B w'=>∃ g,Rel n g B/\Agr (Wc c) ρ g/\ap q.live I g w') (fun B w'=>ap q.live μ (Ml B) w')
   ⟨ρ,hr,Agr.refl _ _,Y⟩ ?_
  rintro B w' ⟨g,f,U,hI⟩;have a5:=gB _ _ _ Z g (fun t M=>U t fun V=>M ((oP c []).2 (.inr V))) w' hI;have h3:=mD c _ _ (FD (fun m N=>(ap q.live I m N/\ap q.live μ m N<ap q.live μ g w')/\Agr (Wc c) g m) Q) g w' a5
   fun e m N ha=>mV (fun l=>⟨l,ha⟩) (fun _=>id) e
  refine wp_mono (li G c _ _ g w' B f hf h3) fun e a6 N=>?_;refine Dw (fun m r l=>⟨⟨m,r,U.trans l.2,l.1.1⟩,?_⟩) (fun e' m r l=>⟨m,r,l⟩) e;rw [<- r.env,<- f.env];exact l.1.2
 | .scope ..,_,_,_,_,_,_,_,h|.label ..,_,_,_,_,_,_,_,h|.goto ..,_,_,_,_,_,_,_,h|.refuse ..,_,_,_,_,_,_,_,h
 | .rangeFunc ..,_,_,_,_,_,_,_,h=>h.elim
end sound

def aT (P:Program) (T:TypeId) (p:Value) (w:World) (K:Value->Prop):Prop:=
 ∃ v,(do loadVar T (<- asAddr p):Sem Value).run P w=.ok v w/\K v
def aby (P:Program):List ResultVar->Env->World->(List Value->Prop)->Prop
 | [],_,_,K=>K []
 | .tmp t::rs,ρ,w,K=>aby P rs ρ w fun vs=>K (ρ t::vs)
 | .cell t T::rs,ρ,w,K=>aT P T (ρ t) w fun v=>aby P rs ρ w fun vs=>K (v::vs)
def aau:List Value->Value
 | [v]=>v
 | vs=>.tuple vs.toArray
def acW (P:Program) (rs:List ResultVar) (ρ:Env) (w:World) (R:Ending->World->Prop):Prop:=
 aby P rs ρ w fun vs=>R (.returned (aau vs)) w
def RN (P:Program) (rs:List ResultVar) (R:Ending->World->Prop):Exit->Env->World->Prop
 | .normal,ρ,w|.ret,ρ,w=>acW P rs ρ w R
 | _,_,_=>False

def aaF (tmps:Array Value):ResultVar->Sem Value
 | .tmp t=>pure (tmps.getD t undef)
 | .cell t T=>do loadVar T (<- asAddr (tmps.getD t undef))
theorem UY (fn:Func) (tmps:Array Value):results fn tmps=(do
  let vs <- fn.results.mapM (aaF tmps)
  pure (if h:vs.size=1 then vs[0] else .tuple vs)):=by
 unfold results
 congr 2
theorem IR {P:Program} {a:Act} {w:World}:∀ (f:List ResultVar) (K:List Value->Prop),aby P f (Ml a) w K->
  ∃ vs,(f.mapM (aaF a.tmps)).run P w=.ok vs w/\vs.length=f.length/\K vs
 | [],K,h=>⟨[],by simp,rfl,h⟩
 | .tmp t::f,K,h=>by
  obtain ⟨vs,g,i,j⟩:=IR f _ h;refine ⟨_::vs,?_,by simp [i],j⟩;rw [List.mapM_cons];simp only [Sem.run_bind,aaF,Sem.run_pure,Result.andThen_ok,g];rfl
 | .cell t T::f,K,h=>by
  obtain ⟨v,m,h⟩:=h;obtain ⟨vs,g,i,j⟩:=IR f _ h;refine ⟨v::vs,?_,by simp [i],j⟩;rw [List.mapM_cons];have l:(aaF a.tmps (.cell t T)).run P w=.ok v w:=m;simp only [Sem.run_bind,l,Result.andThen_ok,g,Sem.run_pure]

theorem FR {P:Program} {fn:Func} {a:Act} {w:World} {R:Ending->World->Prop}
  (h:acW P fn.results.toList (Ml a) w R):∃ v,(results fn a.tmps).run P w=.ok v w/\R (.returned v) w:=by
 obtain ⟨vs,f,i,g⟩:=IR fn.results.toList _ h;refine ⟨_,?_,g⟩;rw [UY,Array.mapM_eq_mapM_toList];simp only [Sem.run_bind,Sem.run_map,f,Result.andThen_ok,Sem.run_pure]
 congr 1
 match vs with
 | []=>simp [aau]
 | [v]=>simp [aau]
 | v::u::r=>simp [aau]

def rq:Nat->List Value->Env->Env
 | _,[],ρ=>ρ
 | k,v::vs,ρ=>rq (k+1) vs (upd ρ k v)
theorem IA:∀ (l:List Value) (k:Nat) (ρ:Env) (t:Nat),rq k l ρ t=if k<=t/\t<k+l.length then (l[t - k]?).getD undef else ρ t
 | [],k,ρ,t=>by simp [rq]; intro a f; omega
 | v::vs,k,ρ,t=>by
  rw [rq,IA vs (k+1) _ t];by_cases h:t=k
  ·subst h;rw [af (by omega),ai (by simp),H8];simp
  ·rw [u4 _ _ h];by_cases a:k+1<=t/\t<k+1+vs.length
   ·rw [ai a,ai (by simp; omega)];rw [show t - k=(t - (k+1))+1 by omega,nL]
   ·rw [af a,af (by simp; omega)]

theorem QJ {P:Program} {f:FuncId} {fn:Func} {c:Code} {n:Nat} (m:An) {args:List Value} {w:World} {R:Ending->World->Prop}
  (o:P.follows .mixedOrders=true) (hf:P.funcs[f]?=some fn) (q:fn.body=some c) (hn:fn.ntmps=n) (hl:Nat.ble args.length n=true)
  (g:D1 n c=true) (h:vc P c m (RN P fn.results.toList R) (rq 0 args fun _=>undef) w):Calls P f args.toArray w R:=by
 have B:args.length<=n:=l9 hl;refine calls_of_wp hf q ?_;have D:Rel n (rq 0 args fun _=>undef) { tmps:=args.toArray++Array.replicate (fn.ntmps - args.toArray.size) undef,defers:=[] }:=by
  refine ⟨by simp; omega,fun t r=>?_,fun t r=>?_,rfl⟩
  ·rw [IA];by_cases i:t<args.length
   ·rw [ai (by omega)];simp [Array.getElem?_append,i]
   ·rw [af (by omega)];rw [Array.getElem?_append_right (by simp; omega),Array.getElem?_replicate,ai (by simp; omega)]
  ·rw [IA,af (by omega)]
 refine wp_mono (li o c m _ _ w _ D g h) fun e J w'=>?_;rintro ⟨G,a,j⟩;rw [a.env] at j;cases e with
 | normal=>
  obtain ⟨v,i,l⟩:=FR j;exact ⟨a.defers,v,i,l⟩
 | ret=>
  obtain ⟨v,i,l⟩:=FR j;exact ⟨a.defers,v,i,l⟩
 | _=>exact j.elim

def qM (fn:Func):Code:=fn.body.getD .skip
def ready (fn:Func) (k:Nat):Bool:=fn.body.isSome && Nat.ble k fn.ntmps && D1 fn.ntmps (qM fn)
theorem rU {P:Program} {f:FuncId} {fn:Func} (a:An) (args:List Value) {w:World} {R:Ending->World->Prop} {p:Prop}
  (j:P.follows .mixedOrders=true) (hf:P.funcs[f]?=some fn) (g:ready fn args.length=true)
  (h:p=vc P (qM fn) a (RN P fn.results.toList R) (rq 0 args fun _=>undef) w) (l:p):Calls P f args.toArray w R:=by
 simp only [ready,aZ] at g;obtain ⟨⟨i,m⟩,o⟩:=g;refine QJ a j hf (c:=qM fn) ?_ rfl m o (h ▸ l);unfold qM;cases q:fn.body with
 | none=>rw [q] at i; cases i
 | some c=>rfl
end
section
open Go Go.RowKit

abbrev ae:=Nat->Option Obj
def Sle (S S':ae):Prop:=∀ b o,S b=some o->S' b=some o
theorem Sle.refl (S:ae):Sle S S:=fun _ _ h=>h
theorem Sle.trans {S S' S'':ae} (h:Sle S S') (a:Sle S' S''):Sle S S'':=fun b o f=>a b o (h b o f)

inductive Item where
 | blk (b:Nat) (o:Obj)
 | row (v:Value) (e:TypeId) (size n:Nat) (xs:List Value)
def Item.foot:Item->List Nat
 | .blk b _=>[b]
 | .row v ..=>v.ownBlock.toList
def Item.holds (w:World):Item->Prop
 | .blk b o=>w.heap[b]?=some o
 | .row v e size n xs=>w.ownsRow 0 e size v n xs
def bS (L:List Item):List Nat:=L.flatMap Item.foot

theorem Item.lt {w:World}:∀ {it:Item},it.holds w->∀ b∈it.foot,b<w.heap.size
 | .blk b o,h,c,hc=>by
  simp only [Item.foot,cE] at hc;subst hc;exact (abx.1 h).1
 | .row v e size n xs,h,c,hc=>by
  simp only [Item.foot,Option.mem_toList] at hc;exact (World.ownsRow.lt h c hc).2
theorem Item.kept {w w':World}:∀ {it:Item},it.holds w->w.heap.size<=w'.heap.size->w'.os=w.os->w'.tape=w.tape->w'.output=w.output->
  (∀ b∈it.foot,w'.heap[b]?=w.heap[b]?)->it.holds w'
 | .blk b o,h,_,_,_,_,hk=>(hk b (by simp [Item.foot])).trans h
 | .row v e size n xs,h,_,_,_,_,hk=>by
  refine ⟨h.1,?_⟩;rcases h.2 with hn|⟨g,cap,a,rfl,i,f,rest⟩
  ·exact .inl hn
  ·exact .inr ⟨g,cap,a,rfl,i,(hk g (by simp [Item.foot,Value.ownBlock])).trans f,rest⟩

structure Inv (w0:World) (X:List Nat) (L:List Item) (S:ae) (w:World):Prop where
 size:w0.heap.size<=w.heap.size
 os:w.os=w0.os
 tape:w.tape=w0.tape
 output:w.output=w0.output
 old:∀ b,b<w0.heap.size->b ∉ X->w.heap[b]?=w0.heap[b]?
 its:∀ it∈L,it.holds w
 nd:(bS L).Nodup
 new:∀ b∈bS L,b∈X ∨ w0.heap.size<=b
 pub:∀ b o,S b=some o->w.heap[b]?=some o/\b ∉ bS L

theorem sj {L:List Item} {b:Nat}:b∈bS L↔∃ it∈L,b∈it.foot:=by simp [bS,List.mem_flatMap]
theorem cI (L M:List Item):bS (L++M)=bS L++bS M:=by simp [bS]
theorem Inv.lt {w0 w:World} {X:List Nat} {L:List Item} {S:ae} (h:Inv w0 X L S w) {b:Nat} (a:b∈bS L):b<w.heap.size:=by
 obtain ⟨it,f,a⟩:=sj.1 a;exact Item.lt (h.its it f) b a
theorem Inv.publt {w0 w:World} {X:List Nat} {L:List Item} {S:ae} (h:Inv w0 X L S w) {b:Nat} {o:Obj} (a:S b=some o):b<w.heap.size:=
 (abx.1 (h.pub b o a).1).1

theorem Inv.start {w:World} {L:List Item} {S:ae} (a:∀ it∈L,it.holds w) (hn:(bS L).Nodup) (f:∀ b o,S b=some o->w.heap[b]?=some o/\b ∉ bS L) :
  Inv w (bS L) L S w:=
 ⟨be _,rfl,rfl,rfl,fun _ _ _=>rfl,a,hn,fun _ h=>.inl h,f⟩
theorem Inv.begin {w0 w:World} {X:List Nat} {L:List Item} {S:ae} (h:Inv w0 X L S w):Inv w (bS L) L S w:=Inv.start h.its h.nd h.pub

theorem Yq {L M:List Item} (g:List.Sublist M L):List.Sublist (bS M) (bS L):=by
 induction g with
 | slnil=>exact BG _
 | cons a _ f=>simp only [bS,Iw] at *; exact f.trans (eR _ _)
 | cons_cons a _ f=>simp only [bS,Iw] at *; exact List.Sublist.append_left f _
theorem Xb {L M:List Item} (a:List.Sublist M L) (h:(bS L).Nodup):(bS M).Nodup:=List.Nodup.sublist (Yq a) h
theorem Inv.sub {w0 w:World} {X:List Nat} {L M:List Item} {S:ae} (h:Inv w0 X L S w) (f:List.Sublist M L):Inv w0 X M S w:=
 have i:∀ b,b∈bS M->b∈bS L:=fun b a=>by
  obtain ⟨it,l,m⟩:=sj.1 a;exact sj.2 ⟨it,f.subset l,m⟩
 ⟨h.size,h.os,h.tape,h.output,h.old,fun it j=>h.its it (f.subset j),Xb f h.nd,fun b a=>h.new b (i b a),
  fun b o a=>⟨(h.pub b o a).1,fun g=>(h.pub b o a).2 (i b g)⟩⟩
theorem Inv.nil {w0 w:World} {X:List Nat} {L:List Item} {S:ae} (h:Inv w0 X L S w):Inv w0 X [] S w:=h.sub (JV _)
def Ct:List Bool->List Item->List Item
 | true::bs,x::xs=>x::Ct bs xs
 | false::bs,_::xs=>Ct bs xs
 | _,_=>[]
theorem Es:∀ (bs:List Bool) (L:List Item),List.Sublist (Ct bs L) L
 | true::bs,x::xs=>by simp only [Ct]; exact (Es bs xs).cons_cons x
 | false::bs,x::xs=>by simp only [Ct]; exact (Es bs xs).cons x
 | [],L=>by simp [Ct]
 | true::_,[]=>by simp [Ct]
 | false::_,[]=>by simp [Ct]
theorem Inv.pick {w0 w:World} {X:List Nat} {L:List Item} {S:ae} (h:Inv w0 X L S w) (bs:List Bool):Inv w0 X (Ct bs L) S w:=h.sub (Es bs L)
theorem Inv.less {w0 w:World} {X:List Nat} {L:List Item} {S S':ae} (h:Inv w0 X L S w) (a:Sle S' S):Inv w0 X L S' w:=
 { h with pub:=fun b o f=>h.pub b o (a b o f) }
theorem Inv.perm {w0 w:World} {X:List Nat} {L M:List Item} {S:ae} (h:Inv w0 X L S w) (g:List.Perm M L):Inv w0 X M S w:=by
 have hf:List.Perm (bS M) (bS L):=g.flatMap_right _;exact ⟨h.size,h.os,h.tape,h.output,h.old,fun it i=>h.its it (g.mem_iff.1 i),hf.symm.nodup h.nd,fun b a=>h.new b (hf.mem_iff.1 a),
  fun b o a=>⟨(h.pub b o a).1,fun f=>(h.pub b o a).2 (hf.mem_iff.1 f)⟩⟩

theorem Inv.step {w0 w w':World} {X:List Nat} {A B:List Item} {S S':ae} (h:Inv w0 X (A++B) S w) {B':List Item} (hc:Inv w (bS B) B' S' w')
  (J:∀ b o,S' b=some o->S b=some o ∨ b∈bS B ∨ w.heap.size<=b):Inv w0 X (A++B') S' w':=by
 have t:=h.nd;rw [cI,qF] at t;obtain ⟨M,O,l⟩:=t;have m:∀ b∈bS A,w'.heap[b]?=w.heap[b]?:=fun b f=>
  hc.old b (h.lt (by rw [cI]; exact dO _ f)) fun j=>l b f b j rfl
 refine ⟨gM h.size hc.size,hc.os.trans h.os,hc.tape.trans h.tape,hc.output.trans h.output,fun b f r=>?_,fun it q=>?_,?_,fun b f=>?_,fun b o f=>?_⟩
 ·have D:b ∉ bS B:=fun j=>by
   rcases h.new b (by rw [cI]; exact im _ j) with g|g
   ·exact r g
   ·omega
  rw [hc.old b (Nat.lt_of_lt_of_le f h.size) D];exact h.old b f r
 ·rcases ci.1 q with q|q
  ·exact Item.kept (h.its it (dO _ q)) hc.size hc.os hc.tape hc.output fun b f=>m b (sj.2 ⟨it,q,f⟩)
  ·exact hc.its it q
 ·rw [cI,qF];refine ⟨M,hc.nd,fun a G b f e=>?_⟩;subst e;have N:=h.lt (b:=a) (by rw [cI]; exact dO _ G);rcases hc.new a f with g|g
  ·exact l a G a g rfl
  ·omega
 ·rw [cI] at f;rcases ci.1 f with f|f
  ·exact h.new b (by rw [cI]; exact dO _ f)
  ·rcases hc.new b f with g|g
   ·exact h.new b (by rw [cI]; exact im _ g)
   ·exact .inr (gM h.size g)
 ·refine ⟨(hc.pub b o f).1,fun i=>?_⟩;rw [cI] at i;rcases ci.1 i with i|i
  ·rcases J b o f with g|g|g
   ·exact (h.pub b o g).2 (by rw [cI]; exact dO _ i)
   ·exact l b i b g rfl
   ·have:=h.lt (b:=b) (by rw [cI]; exact dO _ i);omega
  ·exact (hc.pub b o f).2 i

structure Grow (w w':World):Prop where
 size:w.heap.size<=w'.heap.size
 os:w'.os=w.os
 tape:w'.tape=w.tape
 output:w'.output=w.output
 old:∀ b,b<w.heap.size->w'.heap[b]?=w.heap[b]?
theorem Grow.refl (w:World):Grow w w:=⟨be _,rfl,rfl,rfl,fun _ _=>rfl⟩
theorem Inv.grow {w0 w w':World} {X:List Nat} {L:List Item} {S:ae} (h:Inv w0 X L S w) (a:Grow w w'):Inv w0 X L S w':=by
 have:Inv w (bS []) [] S w':=⟨a.size,a.os,a.tape,a.output,fun b f _=>a.old b f,by simp,by simp [bS],by simp [bS],
  fun b o f=>⟨(a.old b (h.publt f)).trans (h.pub b o f).1,by simp [bS]⟩⟩
 have g:=Inv.step (A:=L) (B:=[]) (by simpa using h) this (fun b o f=>.inl f);simpa using g
theorem Inv.addItem {w0 w w':World} {X:List Nat} {L:List Item} {S:ae} (h:Inv w0 X L S w) (g:Grow w w') {it:Item} (i:it.holds w')
  (hf:∀ b∈it.foot,w.heap.size<=b) (hn:it.foot.Nodup):Inv w0 X (L++[it]) S w':=by
 have f:bS [it]=it.foot:=by simp [bS]
 have:Inv w (bS []) [it] S w':=⟨g.size,g.os,g.tape,g.output,fun b a _=>g.old b a,by simpa using i,by rw [f]; exact hn,
  fun b a=>.inr (hf b (by rwa [f] at a)),fun b o a=>⟨(g.old b (h.publt a)).trans (h.pub b o a).1,fun j=>by
   have:=h.publt a;have:=hf b (by rwa [f] at j);omega⟩⟩
 exact Inv.step (A:=L) (B:=[]) (by simpa using h) this (fun b o a=>.inl a)
theorem Inv.alloc {w0 w:World} {X:List Nat} {L:List Item} {S:ae} (h:Inv w0 X L S w) (o:Obj) :
  Inv w0 X (L++[.blk w.heap.size o]) S { w with heap:=w.heap.push o }:=
 h.addItem (w':={ w with heap:=w.heap.push o }) (it:=.blk w.heap.size o) ⟨by simp,rfl,rfl,rfl,fun b a=>by simp [Array.getElem?_push,Nat.ne_of_lt a]⟩ (by simp [Item.holds]) (by simp [Item.foot]) (by simp [Item.foot])
theorem Inv.draw {w0 w:World} {X:List Nat} {L:List Item} {S:ae} (h:Inv w0 X L S w):Inv w0 X L S { w with drawn:=w.drawn+1 }:=
 h.grow ⟨be _,rfl,rfl,rfl,fun _ _=>rfl⟩

theorem Dj {L:List Item} {i:Nat} {it:Item} (f:L[i]?=some it) (it':Item) :
  L=L.take i++it::L.drop (i+1)/\L.set i it'=L.take i++it'::L.drop (i+1):=by
 have a:i<L.length:=(fS.1 f).1;have g:L[i]=it:=(fS.1 f).2;constructor
 ·conv=>lhs; rw [<- Pw i L,dB a,g]
 ·rw [DE,ai a]
theorem Inv.stepAt {w0 w w':World} {X:List Nat} {L:List Item} {S S':ae} (h:Inv w0 X L S w) {i:Nat} {it it':Item} (a:L[i]?=some it)
  {B:List Item} (hc:Inv w (bS [it]) (it'::B) S' w')
  (f:∀ b o,S' b=some o->S b=some o ∨ b∈bS [it] ∨ w.heap.size<=b):Inv w0 X (L.set i it'++B) S' w':=by
 obtain ⟨g,j⟩:=Dj a it';have l:List.Perm ((L.take i++L.drop (i+1))++[it]) L:=by
  conv=>rhs; rw [g]
  rw [eY];exact yj _ cT
 have p2:List.Perm (L.set i it'++B) ((L.take i++L.drop (i+1))++(it'::B)):=by
  rw [j,eY,eY];refine yj _ ?_;rw [i8];exact zal125.symm
 exact (Inv.step (h.perm l) hc f).perm p2
theorem Inv.change {w0 w w':World} {X:List Nat} {L:List Item} {S:ae} (h:Inv w0 X L S w) {i:Nat} {it it':Item} (t:L[i]?=some it)
  (l:w.heap.size<=w'.heap.size) (m:w'.os=w.os) (q:w'.tape=w.tape) (r:w'.output=w.output)
  (g:∀ b,b<w.heap.size->b ∉ it.foot->w'.heap[b]?=w.heap[b]?) (G:it'.holds w') (hf:∀ b∈it'.foot,b∈it.foot ∨ w.heap.size<=b) (hn:it'.foot.Nodup) :
  Inv w0 X (L.set i it') S w':=by
 have e1:bS [it]=it.foot:=by simp [bS]
 have e2:bS [it']=it'.foot:=by simp [bS]
 have J:it∈L:=cJ t;have j:∀ b o,S b=some o->b ∉ it.foot:=fun b o a f=>(h.pub b o a).2 (sj.2 ⟨it,J,f⟩);have hc:Inv w (bS [it]) [it'] S w':=by
  refine ⟨l,m,q,r,fun b a f=>g b a (by rwa [e1] at f),by simpa using G,by rw [e2]; exact hn,fun b a=>?_,fun b o a=>⟨?_,fun f=>?_⟩⟩
  ·rw [e2] at a; rw [e1]; exact hf b a
  ·exact (g b (h.publt a) (j b o a)).trans (h.pub b o a).1
  ·rw [e2] at f;have:=h.publt a;rcases hf b f with D|D
   ·exact j b o a D
   ·omega
 have:=h.stepAt t (B:=[]) hc fun b o a=>.inl a;simpa using this
theorem Inv.setBlk {w0 w:World} {X:List Nat} {L:List Item} {S:ae} (h:Inv w0 X L S w) {i b:Nat} {o:Obj} (g:L[i]?=some (.blk b o)) (j:Obj) {w':World}
  (l:w'={ w with heap:=w.heap.setIfInBounds b j }):Inv w0 X (L.set i (.blk b j)) S w':=by
 have m:=h.its _ (cJ g);have f:b<w.heap.size:=Item.lt m b (by simp [Item.foot]);subst l;refine h.change g (by simp) rfl rfl rfl (fun c _ a=>?_) ?_ (fun c hc=>.inl hc) (by simp [Item.foot])
 ·simp only [Item.foot,cE] at a;simp only [];rw [abg (fun e=>a e.symm)]
 ·simp [Item.holds,f]

def sq (S:ae) (b:Nat) (o:Obj):ae:=fun c=>if c=b then some o else S c
theorem Inv.publish {w0 w:World} {X:List Nat} {L:List Item} {S:ae} (h:Inv w0 X L S w) {i b:Nat} {o:Obj} (g:L[i]?=some (.blk b o)) :
  Inv w0 X (L.eraseIdx i) (sq S b o) w/\Sle S (sq S b o):=by
 have r:=h.its _ (cJ g);have f:List.Sublist (L.eraseIdx i) L:=List.eraseIdx_sublist ..;have a:=h.sub f;have j:b ∉ bS (L.eraseIdx i):=by
  obtain ⟨q,_⟩:=Dj g (.blk b o);have l:=h.nd;have t:i<L.length:=(fS.1 g).1;have p:List.Perm L (Item.blk b o::L.eraseIdx i):=by
   rw [YN]
   conv=>lhs; rw [q]
   exact zal125
  have:(bS (Item.blk b o::L.eraseIdx i)).Nodup:=(p.flatMap_right Item.foot).nodup l;simp only [bS,Iw,Item.foot,i8,u9,N8] at this;exact this.1
 refine ⟨⟨a.size,a.os,a.tape,a.output,a.old,a.its,a.nd,a.new,fun c m hc=>?_⟩,fun c m hc=>?_⟩
 ·simp only [sq] at hc;split at hc
  ·rename_i e; subst e
   simp only [aY] at hc;subst hc;exact ⟨r,j⟩
  ·exact a.pub c m hc
 ·simp only [sq];split
  ·rename_i e; subst e
   exact absurd (sj.2 ⟨_,cJ g,by simp [Item.foot]⟩) (h.pub _ _ hc).2
  ·exact hc

def Ext (n:Nat) (Y:List Nat) (S S':ae):Prop:=Sle S S'/\∀ b o,S' b=some o->S b=some o ∨ b∈Y ∨ n<=b
theorem Ext.refl (n:Nat) (Y:List Nat) (S:ae):Ext n Y S S:=⟨Sle.refl S,fun _ _ h=>.inl h⟩
def Tri (P:Program) (f:FuncId) (args:List Value) (I:List Item) (S:ae) (Post:Value->List Item->ae->Prop):Prop:=
 ∀ w:World,Inv w (bS I) I S w->Calls P f args.toArray w fun e w'=>∃ v I' S',e=.returned v/\Inv w (bS I) I' S' w'/\Ext w.heap.size (bS I) S S'/\Post v I' S'
def Pure (P:Program) (f:FuncId) (args:List Value) (S:ae) (r:Value):Prop:=
 ∀ w:World,Inv w [] [] S w->Calls P f args.toArray w fun e w'=>e=.returned r/\Inv w [] [] S w'

theorem Run.callP {P:Program} {f:FuncId} {fn:Func} {args:List Value} {w:World} {K:Value->World->Prop} (hf:P.funcs[f]?=some fn) (hn:(fn.name == "runtime.NumGoroutine" || fn.body.isNone)=false)
  (h:Calls P f args.toArray w fun
   | .returned v,w'=>K v w'
   | _,_=>False):Run P (gX (.func (.func f) #[] #[]) args) w K:=by
 simp only [Hy] at hn
 have a:¬ fn.name = "runtime.NumGoroutine" := by simpa using hn.1
 have g:¬ fn.body=none:=fun e=>by rw [e] at hn; simp at hn
 have e:(gX (.func (.func f) #[] #[]) args).run P w=.ok (.enter f args.toArray) w:=by
  simp [gX,Deferred.ofValue,invoke,callFunc,hf,a,g]
 unfold Run;rw [e];exact h

theorem Run.call {P:Program} {f:FuncId} {fn:Func} {args:List Value} {w w0:World} {X:List Nat} {A I:List Item} {S:ae} {Post:Value->List Item->ae->Prop} {K:Value->World->Prop}
  (hf:P.funcs[f]?=some fn) (hn:(fn.name == "runtime.NumGoroutine" || fn.body.isNone)=false) (h:Inv w0 X (A++I) S w) (hc:Tri P f args I S Post)
  (hk:∀ v I' S' w',Post v I' S'->Sle S S'->Inv w0 X (A++I') S' w'->K v w'):Run P (gX (.func (.func f) #[] #[]) args) w K:=by
 refine Run.callP hf hn ((hc w (h.sub (eR A I)).begin).mono ?_);rintro e w' ⟨v,I',S',rfl,g,a,i⟩;exact hk v I' S' w' i a.1 (Inv.step h g a.2)
theorem Run.callPure {P:Program} {f:FuncId} {fn:Func} {args:List Value} {w w0:World} {X:List Nat} {L:List Item} {S:ae} {r:Value} {K:Value->World->Prop}
  (hf:P.funcs[f]?=some fn) (hn:(fn.name == "runtime.NumGoroutine" || fn.body.isNone)=false) (h:Inv w0 X L S w) (hc:Pure P f args S r)
  (hk:∀ w',Inv w0 X L S w'->K r w'):Run P (gX (.func (.func f) #[] #[]) args) w K:=by
 refine Run.callP hf hn ((hc w h.nil.begin).mono ?_);rintro e w' ⟨rfl,a⟩;have i:=Inv.step (A:=L) (B:=[]) (by simpa using h) a fun b o g=>.inl g;exact hk w' (by simpa using i)
theorem Pure.less {P:Program} {f:FuncId} {args:List Value} {S S':ae} {r:Value} (h:Pure P f args S r) (j:Sle S S'):Pure P f args S' r:=by
 intro w g;refine (h w (g.less j)).mono ?_;rintro e w' ⟨l,a⟩;refine ⟨l,a.size,a.os,a.tape,a.output,a.old,by simp,by simp [bS],by simp [bS],fun b o i=>⟨?_,by simp [bS]⟩⟩;rw [a.old b (g.publt i) (by simp)];exact (g.pub b o i).1
end
section
open Go Go.RowKit

theorem Run.of {P:Program} {s:Sem Next} {w w':World} {v:Value} {K:Value->World->Prop} (h:s.run P w=.ok (.value v) w') (hk:K v w'):Run P s w K:=by
 unfold Run; rw [h]; exact hk
theorem Run.ofSkip {P:Program} {s:Sem Next} {w w':World} {K:Value->World->Prop} (h:s.run P w=.ok .skip w') (hk:K undef w'):Run P s w K:=by
 unfold Run; rw [h]; exact hk

def oE (P:Program) (T:TypeId):Option Nat:=match P.underlying T with
 | some (.struct _)|some (.array _ _)=>(P.info? T).map (·.size)
 | _=>none
def jK (P:Program) (T:TypeId):Bool:=match P.underlying T with
 | some (.struct _)|some (.array _ _)=>false
 | some _=>match P.info? T with
  | some i=>Nat.beq i.size 1
  | none=>false
 | none=>false
def bC (P:Program) (T:TypeId) (f:Nat):Option Nat:=match P.underlying T with
 | some (.struct fs)=>match fs[f]? with
  | some fd=>match P.info? fd.type with
   | some i=>match i.size with
    | 0=>none
    | _+1=>some fd.offset
   | none=>none
  | none=>none
 | _=>none
def dt (P:Program) (T:TypeId):Option (TypeId × Nat):=match P.underlying T with
 | some (.slice e)=>(P.info? e).map fun i=>(e,i.size)
 | _=>none
def fY (P:Program) (T:TypeId):Option Value:=match P.info? T with
 | some i=>i.zero
 | none=>none

section
variable {P:Program} {w:World}
theorem pA {T:TypeId} {i:TypeInfo} (h:P.info? T=some i):(sizeOf T).run P w=.ok i.size w:=by
 simp [sizeOf,typeInfo,h]
theorem ZG {T:TypeId} {z:Value} (h:fY P T=some z):(zeroValue T).run P w=.ok z w:=by
 unfold fY at h;split at h
 ·rename_i i a; simp [zeroValue,typeInfo,a,h]
 ·cases h
theorem Mo {T:TypeId} {n:Nat} (h:oE P T=some n):(isAgg T).run P w=.ok true w/\(sizeOf T).run P w=.ok n w:=by
 unfold oE at h;split at h
 ·rename_i g f
  cases a:P.info? T with
  | none=>rw [a] at h; cases h
  | some i=>
   rw [a] at h;simp only [zH,aY] at h;subst h;exact ⟨by simp [isAgg,run_underlying f],pA a⟩
 ·rename_i e m f
  cases a:P.info? T with
  | none=>rw [a] at h; cases h
  | some i=>
   rw [a] at h;simp only [zH,aY] at h;subst h;exact ⟨by simp [isAgg,run_underlying f],pA a⟩
 ·cases h
theorem Dk {T:TypeId} (h:jK P T=true):(isAgg T).run P w=.ok false w/\(sizeOf T).run P w=.ok 1 w:=by
 unfold jK at h;cases a:P.underlying T with
 | none=>rw [a] at h; cases h
 | some d=>
  rw [a] at h;cases f:P.info? T with
  | none=>rw [f] at h; cases d <;> cases h
  | some i=>
   rw [f] at h;have g:i.size=1:=by cases d <;> simp at h <;> exact h
   refine ⟨?_,by rw [pA f,g]⟩;cases d <;> simp [isAgg,run_underlying a] at h ⊢

theorem mK (b o n:Nat):(⟨b,o,none⟩:Addr).add n=⟨b,o+n,none⟩:=by unfold Addr.add; split <;> simp_all

theorem ES {T:TypeId} {n b o:Nat} {cs:List Value} (h:oE P T=some n) (hl:cs.length=n) (hc:∀ j v,cs[j]?=some v->w.cell? ⟨b,o+j,none⟩=some v) :
  (loadVar T ⟨b,o,none⟩).run P w=.ok (.agg cs.toArray) w:=by
 obtain ⟨g,i⟩:=Mo (w:=w) h;have a:=run_loadCells_list (P:=P) (w:=w) ⟨b,o,none⟩ cs (fun j v f=>by rw [mK]; exact hc j v f);rw [hl] at a;simp [loadVar,g,i,a]
theorem Ug {T:TypeId} {b o:Nat} {v:Value} (h:jK P T=true) (hc:w.cell? ⟨b,o,none⟩=some v):(loadVar T ⟨b,o,none⟩).run P w=.ok v w:=by
 simp [loadVar,(Dk (w:=w) h).1,hc]
end

section mem
variable {P:Program} {w w0:World} {X:List Nat} {L:List Item} {S:ae} {K:Value->World->Prop}

theorem Inv.cellS (h:Inv w0 X L S w) {b o:Nat} {c:Array Value} {E:TypeId} {a:Nat × Nat} (f:S b=some (.cells c E a)):w.cell? ⟨b,o,none⟩=c[o]?:=by
 simp [World.cell?,(h.pub b _ f).1]
theorem Inv.cellL (h:Inv w0 X L S w) {i b o:Nat} {c:Array Value} {E:TypeId} {a:Nat × Nat} (f:L[i]?=some (.blk b (.cells c E a))):w.cell? ⟨b,o,none⟩=c[o]?:=by
 have:=h.its _ (cJ f);simp only [Item.holds] at this;simp [World.cell?,this]

theorem bq (h:Inv w0 X L S w) {T ty:TypeId} {v:Value} (hk:∀ b w',Inv w0 X (L++[.blk b (.cells v.cells T)]) S w'->K (.pointer (some ⟨b,0,none⟩)) w') :
  Run P (sOp (.box T (.const v)) ty) w K:=by
 refine Run.of (v:=.pointer (some ⟨w.heap.size,0,none⟩)) ?_ (hk _ _ (h.alloc _));simp [sOp,execOp,Instr.box,newVar,newRow,newObj,ev0,evE,Sem.run]
theorem aG (h:Inv w0 X L S w) {T ty:TypeId} {z:Value} (a:fY P T=some z) (hk:∀ b w',Inv w0 X (L++[.blk b (.cells z.cells T)]) S w'->K (.pointer (some ⟨b,0,none⟩)) w') :
  Run P (sOp (.alloc T) ty) w K:=by
 refine Run.of (v:=.pointer (some ⟨w.heap.size,0,none⟩)) ?_ (hk _ _ (h.alloc _));simp [sOp,execOp,Instr.alloc,newVar,newRow,newObj,ZG a,Sem.run]
theorem ah {T ty:TypeId} {f b o k:Nat} (hf:bC P T f=some k) (hk:K (.pointer (some ⟨b,o+k,none⟩)) w) :
  Run P (sOp (.fieldAddr T (.const (.pointer (some ⟨b,o,none⟩))) f) ty) w K:=by
 refine Run.of ?_ hk;unfold bC at hf;split at hf <;> try cases hf
 rename_i l h
 split at hf <;> try cases hf
 rename_i m a
 split at hf <;> try cases hf
 rename_i i j
 split at hf <;> try cases hf
 rename_i n hn
 have g:¬ i.size=0:=by omega
 simp [sOp,execOp,Instr.fieldAt,run_underlying h,a,Instr.sureAddr,ev0,evE,fieldPlace,pA j,g,mK]
theorem cS {T ty:TypeId} {b o:Nat} {v:Value} (a:jK P T=true) (hc:w.cell? ⟨b,o,none⟩=some v) (hk:K v w) :
  Run P (sOp (.load T (.const (.pointer (some ⟨b,o,none⟩)))) ty) w K:=by
 refine Run.of ?_ hk;simp [sOp,execOp,Instr.loadAt,Instr.sureAddr,ev0,evE,Ug a hc]
theorem bV {T ty:TypeId} {b o n:Nat} {cs:List Value} (a:oE P T=some n) (hl:cs.length=n) (hc:∀ j v,cs[j]?=some v->w.cell? ⟨b,o+j,none⟩=some v) (hk:K (.agg cs.toArray) w) :
  Run P (sOp (.load T (.const (.pointer (some ⟨b,o,none⟩)))) ty) w K:=by
 refine Run.of ?_ hk;simp [sOp,execOp,Instr.loadAt,Instr.sureAddr,ev0,evE,ES a hl hc]
theorem aD (h:Inv w0 X L S w) {T ty:TypeId} (i:Nat) {b o:Nat} {c:Array Value} {E:TypeId} {v:Value} (a:jK P T=true) (f:L[i]?=some (.blk b (.cells c E))) (hc:c[o]?=some v) (hk:K v w) :
  Run P (sOp (.load T (.const (.pointer (some ⟨b,o,none⟩)))) ty) w K:=
 cS a ((h.cellL f).trans hc) hk
theorem cP (h:Inv w0 X L S w) {T ty:TypeId} (i:Nat) {b o n:Nat} {c:Array Value} {E:TypeId} (cs:List Value) (a:oE P T=some n) (f:L[i]?=some (.blk b (.cells c E))) (hl:cs.length=n)
  (hc:∀ j v,cs[j]?=some v->c[o+j]?=some v) (hk:K (.agg cs.toArray) w):Run P (sOp (.load T (.const (.pointer (some ⟨b,o,none⟩)))) ty) w K:=
 bV a hl (fun j v g=>(h.cellL f).trans (hc j v g)) hk
theorem av (h:Inv w0 X L S w) {T ty:TypeId} (i:Nat) {b n:Nat} {c:Array Value} {E:TypeId} (a:oE P T=some n) (f:L[i]?=some (.blk b (.cells c E))) (hl:c.size=n)
  (hk:K (.agg c) w):Run P (sOp (.load T (.const (.pointer (some ⟨b,0,none⟩)))) ty) w K:=by
 refine cP h i (o:=0) c.toList a f (by simpa using hl) (fun j v g=>by simpa using g) ?_;simpa using hk
theorem bm (h:Inv w0 X L S w) {T:TypeId} {K:Value->Prop} (i:Nat) {b n:Nat} {c:Array Value} {E:TypeId} (a:oE P T=some n) (f:L[i]?=some (.blk b (.cells c E))) (hl:c.size=n)
  (hk:K (.agg c)):aT P T (.pointer (some ⟨b,0,none⟩)) w K:=by
 unfold aT;refine ⟨_,?_,hk⟩;have:=ES (w:=w) (P:=P) (b:=b) (o:=0) (cs:=c.toList) a (by simpa using hl) (fun j v g=>by
  rw [h.cellL f]; simpa using g)
 simpa [asAddr] using this

def b0 (c:Array Value) (o:Nat) (vs:List Value):Array Value:=(c.toList.take o++vs++c.toList.drop (o+vs.length)).toArray
theorem Mj {w:World} {g:Nat} {c cs:Array Value} {E:TypeId} {h:Nat × Nat} (a:w.heap[g]?=some (.cells c E h)) :
  w.setRow g cs={ w with heap:=w.heap.setIfInBounds g (.cells cs E h) }:=by
 have f:=(abx.1 a).1;have j:=(abx.1 a).2;unfold World.setRow
 congr 1
 apply Array.ext_getElem?;intro i;by_cases e:g=i
 ·subst e;rw [Array.getElem?_modify,ai rfl,a];simp [f]
 ·rw [abg e,Array.getElem?_modify,af e]
theorem dD (h:Inv w0 X L S w) {T ty:TypeId} (i:Nat) {b o:Nat} {c:Array Value} {E:TypeId} {v:Value} {n:Nat} (hn:v.cells.size=n) (m:(jK P T && Nat.beq n 1 || oE P T == some n)=true)
  (q:L[i]?=some (.blk b (.cells c E))) (a:o+n<=c.size) (r:∀ u∈v.cells.toList,u.oneCell'=true)
  (hk:∀ w',Inv w0 X (L.set i (.blk b (.cells (b0 c o v.cells.toList) E))) S w'->K undef w') :
  Run P (sOp (.store T (.const (.pointer (some ⟨b,o,none⟩))) (.const v)) ty) w K:=by
 have g:=h.its _ (cJ q);simp only [Item.holds] at g;have j:(sizeOf T).run P w=.ok n w:=by
  simp only [jI,aZ,beq_iff_eq] at m;rcases m with ⟨l,t⟩|l
  ·rw [(Dk (w:=w) l).2,Pk t]
  ·exact (Mo (w:=w) l).2
 have f:=run_storeCells_at P b o E v.cells.toList 0 c w g (by simpa [hn] using a) r;refine Run.ofSkip (w':=w.setRow b (b0 c o v.cells.toList)) ?_ (hk _ (h.setBlk q _ (Mj g)));simp only [vo] at f;simp [sOp,execOp,Instr.storeAt,Instr.sureAddr,ev0,evE,storeVar,j,hn,f,b0]
theorem az {T ty E:TypeId} {k b o len cap i:Nat} (a:dt P T=some (E,k)) (f:i<len) (hk:K (.pointer (some ⟨b,o+i * k,none⟩)) w) :
  Run P (sOp (.indexAddr T (.const (.slice (some ⟨b,o,none⟩) len cap)) (.const (.int .i64 i))) ty) w K:=by
 refine Run.of ?_ hk;unfold dt at a;split at a <;> try cases a
 rename_i e h
 cases g:P.info? e with
 | none=>rw [g] at a; cases a
 | some j=>
  rw [g] at a;simp only [zH,aY,cV] at a;obtain ⟨rfl,rfl⟩:=a;have l:(0:Int)<=(i:Int)/\(i:Int)<(len:Int):=⟨by omega,by omega⟩
  simp [sOp,execOp,Instr.indexAt,asIntOf,run_underlying h,ev0,evE,pA g,f,mK]
end mem

section pure
variable {P:Program} {w:World} {K:Value->World->Prop}
theorem aH {ty:TypeId} {a:Addr} (hk:K (.pointer (some a)) w):Run P (sOp (.nilCheck (.const (.pointer (some a)))) ty) w K:=
 Run.of (by simp [sOp,execOp,ev0,evE]) hk
theorem zp {ty:TypeId} {c:Bool} {a b:Value} (hk:K (if c=true then a else b) w):Run P (sOp (.pick (.const (.bool c)) (.const a) (.const b)) ty) w K:=
 Run.of (by simp [sOp,execOp,ev0,evE,asBool]) hk
theorem cq {T ty:TypeId} {c:Bool} (hk:K (.bool (!c)) w):Run P (sOp (.unOp .not T (.const (.bool c))) ty) w K:=
 Run.of (by simp [sOp,execOp,ev0,evE,Op.unary]) hk
theorem al {ty:TypeId} {vs:Array Value} {i:Nat} {v:Value} (a:vs[i]?=some v) (hk:K v w):Run P (sOp (.extract (.const (.tuple vs)) i) ty) w K:=
 Run.of (by simp [sOp,execOp,ev0,evE,Instr.extract,a]) hk
theorem md {fn:Fn} {a b:List Value} (hk:K (.func fn a.toArray b.toArray) w):Run P (fT fn a b) w K:=
 Run.of (by simp [fT,Instr.makeFunc]) hk
theorem dN (op:BinOp) (T:TypeId) (x y:Operand) (k k':IntKind) (a b:Int):(eqGuard op T x y (.int k a) (.int k' b)).run P w=.ok () w:=by
 unfold eqGuard; simp
theorem vG (op:BinOp) (T:TypeId) (x y:Operand) (a b:ByteArray):(eqGuard op T x y (.string a) (.string b)).run P w=.ok () w:=by
 unfold eqGuard; simp
theorem Au (op:BinOp) (T:TypeId) (x y:Operand) (a b:Bool):(eqGuard op T x y (.bool a) (.bool b)).run P w=.ok () w:=by
 unfold eqGuard; simp
theorem bA {T:TypeId} {f g:Bool} {a b:Int} (h:-9223372036854775808<=a+b/\a+b<=9223372036854775807) (hk:K (.int .i64 (a+b)) w):Run P (dH .add T f g (.int .i64 a) (.int .i64 b)) w K:=
 Run.of (by simp [dH,dN,binOp,Op.intArith,IntWalk.i64_in _ h]) hk
theorem je {T:TypeId} {f g:Bool} {a b:Int} (h:-9223372036854775808<=a - b/\a - b<=9223372036854775807) (hk:K (.int .i64 (a - b)) w):Run P (dH .sub T f g (.int .i64 a) (.int .i64 b)) w K:=
 Run.of (by simp [dH,dN,binOp,Op.intArith,IntWalk.i64_in _ h]) hk
theorem bM {T:TypeId} {f g:Bool} {k:IntKind} {a b:Int} (hk:K (.bool (decide (a<b))) w):Run P (dH .lss T f g (.int k a) (.int k b)) w K:=
 Run.of (by simp [dH,dN,binOp,Op.intCmp]) hk
theorem gJ {T:TypeId} {f g:Bool} {k:IntKind} {a b:Int} (hk:K (.bool (decide (a<=b))) w):Run P (dH .leq T f g (.int k a) (.int k b)) w K:=
 Run.of (by simp [dH,dN,binOp,Op.intCmp]) hk
theorem ew {T:TypeId} {f g:Bool} {k:IntKind} {a b:Int} (hk:K (.bool (decide (b<a))) w):Run P (dH .gtr T f g (.int k a) (.int k b)) w K:=
 Run.of (by simp [dH,dN,binOp,Op.intCmp]) hk
theorem iS {T:TypeId} {f g:Bool} {k:IntKind} {a b:Int} (hk:K (.bool (decide (b<=a))) w):Run P (dH .geq T f g (.int k a) (.int k b)) w K:=
 Run.of (by simp [dH,dN,binOp,Op.intCmp]) hk
theorem bn {T:TypeId} {f g:Bool} {k:IntKind} {a b:Int} (hk:K (.bool (decide (a=b))) w):Run P (dH .eql T f g (.int k a) (.int k b)) w K:=
 Run.of (by simp [dH,dN,binOp,Op.intCmp]; rfl) hk
theorem dw {T:TypeId} {f g:Bool} {k:IntKind} {a b:Int} (hk:K (.bool (!decide (a=b))) w):Run P (dH .neq T f g (.int k a) (.int k b)) w K:=
 Run.of (by simp [dH,dN,binOp,Op.intCmp]; rfl) hk
theorem Rx (a:ByteArray):∀ (n i:Nat) (r:List UInt8),a.size - i=n->ByteArray.toList.loop a i r=r.reverse++a.data.toList.drop i:=by
 intro n;induction n with
 | zero=>
  intro i r hn;unfold ByteArray.toList.loop;have g:¬ i<a.size:=by omega
  have f:a.data.toList.length<=i:=by
   have e:a.data.toList.length=a.size:=by rw [SZ]; rfl
   omega
  rw [af g,xZ f,dc]
 | succ n l=>
  intro i r hn;unfold ByteArray.toList.loop;have g:i<a.size:=by omega
  have f:i<a.data.toList.length:=by
   have e:a.data.toList.length=a.size:=by rw [SZ]; rfl
   omega
  rw [ai g,l (i+1) _ (by omega),dB f];have h:i<a.data.size:=by simpa using f
  have j:a.get! i=a.data.toList[i]:=by
   show a.data[i]! = _;rw [getElem!_pos a.data i h,Array.getElem_toList]
  rw [j,List.reverse_cons,eY];rfl
theorem BS (a:ByteArray):a.toList=a.data.toList:=by
 unfold ByteArray.toList;rw [Rx a _ 0 [] rfl];rfl
theorem BI (a b:ByteArray):(a.toList == b.toList)=decide (a=b):=by
 rw [BS,BS,qt];simp only [beq_iff_eq,bt];constructor
 ·intro h;cases a; cases b;simp only [ByteArray.mk.injEq];exact Gw.1 h
 ·rintro rfl; rfl
theorem bB {T:TypeId} {f g:Bool} {a b:ByteArray} (hk:K (.bool (decide (a=b))) w):Run P (dH .eql T f g (.string a) (.string b)) w K:=
 Run.of (by simp only [dH,binOp,Op.stringOp,Sem.run_bind,vG,Result.andThen_ok,Sem.run_pure,BI]) hk
theorem Ea {T:TypeId} {f g:Bool} {a b:ByteArray} (hk:K (.bool (!decide (a=b))) w):Run P (dH .neq T f g (.string a) (.string b)) w K:=
 Run.of (by simp only [dH,binOp,Op.stringOp,Sem.run_bind,vG,Result.andThen_ok,Sem.run_pure,BI]) hk
theorem Vj {T:TypeId} {f g:Bool} {a b:Bool} (h:P.underlying T=some .bool) (hk:K (.bool (!(a == b))) w):Run P (dH .neq T f g (.bool a) (.bool b)) w K:=
 Run.of (by
  have i:(Op.equal T (.bool a) (.bool b)).run P w=.ok (a == b) w:=by
   rw [Op.equal,Op.maxDepth,Op.equalIn.eq_def];simp [run_underlying h]
  simp only [dH,binOp,Sem.run_bind,Au,Result.andThen_ok,i,Sem.run_pure]) hk
theorem jy {T ty:TypeId} {cs:List Bool} {s:ByteArray} (a:P.underlying T=some .string) (hk:K (.int .i64 s.size) w):Run P (ce .len #[T] ty cs [.string s]) w K:=
 Run.of (by simp [ce,builtin,Builtin.len_,run_underlying a,goInt]) hk
theorem fJ {T ty:TypeId} {cs:List Bool} {a:Option Addr} {n c:Nat} {Ek:TypeId × Nat} (f:dt P T=some Ek) (hk:K (.int .i64 n) w):Run P (ce .len #[T] ty cs [.slice a n c]) w K:=by
 refine Run.of ?_ hk;unfold dt at f;split at f <;> try cases f
 rename_i e g
 simp [ce,builtin,Builtin.len_,run_underlying g,goInt]
theorem pe {T ty:TypeId} {s:ByteArray} {i:Nat} (a:P.underlying T=some .string) (f:i<s.size) (hk:K (.int .u8 s[i].toNat) w) :
  Run P (sOp (.index T (.const (.string s)) (.const (.int .i64 i))) ty) w K:=by
 refine Run.of ?_ hk;have g:(0:Int)<=(i:Int):=by omega
 simp [sOp,execOp,Instr.index,asIntOf,run_underlying a,ev0,evE,f]
end pure

theorem aE {c:Bool} {A B:Prop} (a:c=true->A) (hf:c=false->B):CondV (.bool c) A B:=by
 unfold CondV;cases c
 ·exact hf rfl
 ·exact a rfl
theorem aJ {p:Prop} [Decidable p] {A B:Prop} (a:p->A) (hf:¬ p->B):CondV (.bool (decide p)) A B:=
 aE (fun h=>a (of_decide_eq_true h)) (fun h=>hf (of_decide_eq_false h))
theorem Tj {c b:Bool} {A B:Prop} (a:c=b->A) (hf:c≠b->B):aF (.bool c) b A B:=by
 unfold aF;simp only [];split
 ·rename_i e; exact a e
 ·rename_i e; exact hf e
end
section
open Go Go.RowKit
attribute [local irreducible] Run CondV aF aT

def inI (n:Int):Prop:=-9223372036854775808<=n/\n<=9223372036854775807

inductive T where
 | mk (kind n:Int) (name:ByteArray) (kids:List T)
namespace T
def kind:T->Int
 | .mk k _ _ _=>k
def n:T->Int
 | .mk _ n _ _=>n
def name:T->ByteArray
 | .mk _ _ s _=>s
def kids:T->List T
 | .mk _ _ _ ks=>ks
theorem ind {p:T->Prop} (h:∀ k n s f,(∀ t∈f,p t)->p (.mk k n s f)) (t:T):p t:=
 T.rec (motive_1:=p) (motive_2:=fun l=>∀ t∈l,p t) (fun k n s f i=>h k n s f i) (by simp) (fun a l j m t g=>by
  rcases cw.1 g with rfl|g
  ·exact j
  ·exact m t g) t
end T
structure C where
 head:T
 body:List T

def aO (c:Array Value) (o k:Nat):List Value:=(c.toList.drop o).take k
def RdSl {α:Type} (S:ae) (k:Nat) (R:List Value->α->Prop) (v:Value) (xs:List α):Prop:=
 ∃ a cap,v=.slice a xs.length cap/\xs.length<=cap/\cap<=maxLen/\
  (xs=[] ∨ ∃ b o c E fz,a=some ⟨b,o,none⟩/\S b=some (.cells c E fz)/\∀ i (h:i<xs.length),R (aO c (o+i * k) k) xs[i])
inductive RdT (S:ae):List Value->T->Prop
 | nil {k n:Int} {s:ByteArray} {a:Option Addr} {cap:Nat} (hk:inI k) (hn:inI n) (hs:s.size<=maxLen) (hc:cap<=maxLen) :
   RdT S [.int .i64 k,.int .i64 n,.string s,.slice a 0 cap] (.mk k n s [])
 | cons {k n:Int} {s:ByteArray} {kids:List T} {b o cap:Nat} {c:Array Value} {E:TypeId} {fz:Nat × Nat} (hk:inI k) (hn:inI n) (hs:s.size<=maxLen) (hl:kids.length<=cap) (hc:cap<=maxLen)
   (hS:S b=some (.cells c E fz)) (h:∀ i (h:i<kids.length),RdT S (aO c (o+i * 4) 4) kids[i]) :
   RdT S [.int .i64 k,.int .i64 n,.string s,.slice (some ⟨b,o,none⟩) kids.length cap] (.mk k n s kids)
theorem RdT.iff {S:ae} {cs:List Value} {t:T}:RdT S cs t ↔
  ∃ g,cs=[.int .i64 t.kind,.int .i64 t.n,.string t.name,g]/\inI t.kind/\inI t.n/\t.name.size<=maxLen/\RdSl S 4 (RdT S) g t.kids:=by
 constructor
 ·intro h;cases h with
  | nil hk hn f hc=>exact ⟨_,rfl,hk,hn,f,_,_,rfl,bf _,hc,.inl rfl⟩
  | cons hk hn f hl hc i h=>exact ⟨_,rfl,hk,hn,f,_,_,rfl,hl,hc,.inr ⟨_,_,_,_,_,rfl,i,h⟩⟩
 ·obtain ⟨k,n,s,kids⟩:=t;rintro ⟨g,rfl,hk,hn,f,a,cap,rfl,hl,hc,h⟩;rcases h with h|⟨b,o,c,E,j,rfl,i,h⟩
  ·simp only [T.kids] at h;subst h;exact RdT.nil hk hn f hc
  ·exact RdT.cons hk hn f hl hc i h
theorem RdT.length {S:ae} {cs:List Value} {t:T} (h:RdT S cs t):cs.length=4:=by
 obtain ⟨a,rfl,_⟩:=RdT.iff.1 h; rfl
theorem RdT.mono {S S':ae} (a:Sle S S') {cs:List Value} {t:T} (h:RdT S cs t):RdT S' cs t:=by
 induction h with
 | nil hk hn a hc=>exact RdT.nil hk hn a hc
 | cons hk hn f hl hc g _ i=>exact RdT.cons hk hn f hl hc (a _ _ g) i
theorem RdSl.mono {α:Type} {S S':ae} {k:Nat} {R R':List Value->α->Prop} {v:Value} {xs:List α} (f:Sle S S') (hR:∀ cs x,R cs x->R' cs x) (h:RdSl S k R v xs):RdSl S' k R' v xs:=by
 obtain ⟨a,cap,rfl,hl,hc,h⟩:=h;refine ⟨a,cap,rfl,hl,hc,?_⟩;rcases h with h|⟨b,o,c,E,j,l,m,h⟩
 ·exact .inl h
 ·exact .inr ⟨b,o,c,E,j,l,f _ _ m,fun i g=>hR _ _ (h i g)⟩
theorem RdSl.monoT {S S':ae} {v:Value} {xs:List T} (a:Sle S S') (h:RdSl S 4 (RdT S) v xs):RdSl S' 4 (RdT S') v xs:=h.mono a fun _ _=>RdT.mono a
def RdC (S:ae) (cs:List Value) (c:C):Prop:=∃ hd ks,cs=hd++[ks]/\RdT S hd c.head/\RdSl S 4 (RdT S) ks c.body
theorem RdC.length {S:ae} {cs:List Value} {c:C} (h:RdC S cs c):cs.length=5:=by
 obtain ⟨hd,a,rfl,h,_⟩:=h; simp [h.length]
theorem RdC.mono {S S':ae} (a:Sle S S') {cs:List Value} {c:C} (h:RdC S cs c):RdC S' cs c:=by
 obtain ⟨hd,f,rfl,g,i⟩:=h; exact ⟨hd,f,rfl,g.mono a,i.monoT a⟩
theorem RdSl.monoC {S S':ae} {v:Value} {xs:List C} (a:Sle S S') (h:RdSl S 5 (RdC S) v xs):RdSl S' 5 (RdC S') v xs:=h.mono a fun _ _=>RdC.mono a

theorem RdSl.at_ {α:Type} {S:ae} {k:Nat} {R:List Value->α->Prop} {v:Value} {xs:List α} (h:RdSl S k R v xs) {i:Nat} (g:i<xs.length) :
  ∃ b o cap c E f,v=.slice (some ⟨b,o,none⟩) xs.length cap/\S b=some (.cells c E f)/\R (aO c (o+i * k) k) xs[i]:=by
 obtain ⟨a,cap,rfl,hl,hc,h⟩:=h;rcases h with h|⟨b,o,c,E,f,rfl,j,h⟩
 ·subst h; simp at g
 ·exact ⟨b,o,cap,c,E,f,rfl,j,h i g⟩
theorem RdSl.le {α:Type} {S:ae} {k:Nat} {R:List Value->α->Prop} {v:Value} {xs:List α} (h:RdSl S k R v xs):xs.length<=maxLen:=by
 obtain ⟨a,cap,rfl,hl,hc,h⟩:=h; exact gM hl hc
theorem aA {c:Array Value} {o k:Nat} {cs:List Value} (e:aO c o k=cs):∀ j v,cs[j]?=some v->c[o+j]?=some v:=by
 intro j v h;subst e;rw [aO,ym] at h;split at h
 ·rw [AW] at h; simpa using h
 ·cases h

section
variable {P:Program} {w w0:World} {X:List Nat} {L:List Item} {S:ae} {K:Value->World->Prop}
theorem aI {α:Type} {T ty:TypeId} {cs:List Bool} {k:Nat} {R:List Value->α->Prop} {v:Value} {xs:List α} {Ek:TypeId × Nat} (h:RdSl S k R v xs) (f:dt P T=some Ek)
  (hk:K (.int .i64 xs.length) w):Run P (ce .len #[T] ty cs [v]) w K:=by
 obtain ⟨a,cap,rfl,_⟩:=h;exact fJ f hk
def elP (v:Value) (n:Nat):Value:=match v with
 | .slice (some a) _ _=>.pointer (some ⟨a.block,a.off+n,none⟩)
 | _=>undef
def elQ (v:Value) (n d:Nat):Value:=match v with
 | .slice (some a) _ _=>.pointer (some ⟨a.block,a.off+n+d,none⟩)
 | _=>undef
section
variable {K:Value->Value->World->Prop} {K3:Value->Value->Value->World->Prop}
theorem cL {α:Type} {T U ty f E:TypeId} {k:Nat} {R:List Value->α->Prop} {v:Value} {xs:List α} (l:Inv w0 X L S w) (h:RdSl S k R v xs) (m:dt P T=some (E,k)) (q:oE P U=some k)
  {i:Nat} (g:i<xs.length) (a:∀ cs x,R cs x->cs.length=k) (hk:∀ cs,R cs xs[i]->K (elP v (i * k)) (.agg cs.toArray) w) :
  Run P (sOp (.indexAddr T (.const v) (.const (.int .i64 i))) ty) w fun p w'=>Run P (sOp (.load U (.const p)) f) w' (K p):=by
 obtain ⟨b,o,cap,c,E',B,rfl,t,hR⟩:=h.at_ g;refine az m g ?_;refine bV q (a _ _ hR) (fun j v r=>?_) (hk _ hR);rw [l.cellS t];exact aA rfl j v r
theorem tw {α:Type} {T Tf U ty g a E:TypeId} {k f d:Nat} {R:List Value->α->Prop} {v u:Value} {xs:List α} (m:Inv w0 X L S w) (h:RdSl S k R v xs) (r:dt P T=some (E,k)) (hf:bC P Tf f=some d) (t:jK P U=true)
  {i:Nat} (l:i<xs.length) (hc:∀ cs,R cs xs[i]->cs[d]?=some u) (hk:K3 (elP v (i * k)) (elQ v (i * k) d) u w) :
  Run P (sOp (.indexAddr T (.const v) (.const (.int .i64 i))) ty) w fun p w'=>Run P (sOp (.fieldAddr Tf (.const p) f) g) w' fun q j=>Run P (sOp (.load U (.const q)) a) j (K3 p q):=by
 obtain ⟨b,o,cap,c,E',D,rfl,B,hR⟩:=h.at_ l;refine az r l ?_;refine ah hf ?_;refine cS t ?_ hk;rw [m.cellS B];exact aA rfl d u (hc _ hR)
theorem ad {T U ty a E:TypeId} {f d b:Nat} {c:Array Value} {u:Value} (g:Inv w0 X L S w) (i:Nat) (h:L[i]?=some (.blk b (.cells c E))) (hf:bC P T f=some d) (j:jK P U=true) (hc:c[d]?=some u)
  (hk:K (.pointer (some ⟨b,d,none⟩)) u w):Run P (sOp (.fieldAddr T (.const (.pointer (some ⟨b,0,none⟩))) f) ty) w fun q w'=>Run P (sOp (.load U (.const q)) a) w' (K q):=by
 refine ah hf ?_;rw [dr];exact aD g i j h hc hk
end
end
theorem Pure.mk {P:Program} {f:FuncId} {args:List Value} {S:ae} {r:Value} (h:∀ w:World,Inv w [] [] S w->Calls P f args.toArray w fun e w'=>e=.returned r/\Inv w [] [] S w'):Pure P f args S r:=h
theorem done {w w':World} {L:List Item} {S:ae} {r a:Value} (h:Inv w [] L S w') (e:a=r):Ending.returned a=.returned r/\Inv w [] [] S w':=⟨by rw [e],h.nil⟩

section
variable {P:Program} {w:World} {K:Value->World->Prop} {ty:TypeId}
theorem bG {b:Bool} {A B:Prop} (h:A):aF (.bool b) b A B:=by unfold aF; simp only [if_true]; exact h
theorem dk {c b:Bool} {A B:Prop} (hc:c≠b) (h:B):aF (.bool c) b A B:=by unfold aF; simp only [af hc]; exact h
theorem ST {b:Bool} {A B:Prop} (h:B):aF undef b A B:=by unfold aF; exact h
theorem A6 {v u:Value} (hk:K v w):Run P (sOp (.pick (.const (.bool true)) (.const v) (.const u)) ty) w K:=zp hk
theorem tq {v u:Value} (hk:K u w):Run P (sOp (.pick (.const (.bool false)) (.const v) (.const u)) ty) w K:=zp hk
theorem rpG {p q:Prop} (h:q) (i:q->p:=by (intro h; (repeat (first|refine bG ?_|refine dk (by decide) ?_|refine ST ?_|refine A6 ?_|refine tq ?_)); exact h)):p:=i h
end
end
section
open Go Go.RowKit
attribute [local irreducible] Run CondV aF aT

def iP (P:Program) (T:TypeId):Option (TypeId × Nat × Nat × Value):=match P.underlying T with
 | some (.slice e)=>match P.info? e with
  | some i=>match i.zero with
   | some z=>match Nat.beq z.cells.size i.size with
    | true=>some (e,i.size,i.bytes,z)
    | false=>none
   | none=>none
  | none=>none
 | _=>none
theorem oy {P:Program} {T e:TypeId} {k by_:Nat} {z:Value} (h:iP P T=some (e,k,by_,z)) :
  P.underlying T=some (.slice e)/\∃ i,P.info? e=some i/\i.zero=some z/\i.size=k/\i.bytes=by_/\z.cells.size=k:=by
 unfold iP at h;split at h <;> try cases h
 rename_i l a
 split at h <;> try cases h
 rename_i i f
 split at h <;> try cases h
 rename_i m g
 split at h <;> try cases h
 rename_i j
 exact ⟨a,i,f,g,rfl,rfl,Pk j⟩

theorem QW:∀ (l:List Value) (o j:Nat) (cs:Array Value),o+j+l.length<=cs.size->
  (l.zipIdx j).foldl (fun cs p=>cs.setIfInBounds (o+p.2) p.1) cs=b0 cs (o+j) l
 | [],o,j,cs,_=>by simp [b0]
 | v::l,o,j,cs,h=>by
  simp only [bI] at h;rw [List.zipIdx_cons,List.foldl_cons,QW l o (j+1) _ (by simp; omega)];apply Gw.1;simp only [b0,bI];rw [abk,show o+(j+1)=o+j+1 by omega];have a:o+j<cs.toList.length:=by simp; omega
  rw [gh (by simpa using a),List.take_set_of_le (be _)];simp only [Md,eY,i8,u9];rw [List.drop_set_of_lt (by omega),show o+j+1+l.length=o+j+(l.length+1) by omega]
theorem QH (v:Value) (o:Nat) (cs:Array Value) (h:o+v.cells.size<=cs.size) :
  v.cells.zipIdx.foldl (fun cs (c,j)=>cs.setIfInBounds (o+j) c) cs=b0 cs o v.cells.toList:=by
 rw [<- Array.foldl_toList,Array.toList_zipIdx];exact QW v.cells.toList o 0 cs (by simpa using h)
theorem my (c:Array Value) (o:Nat) (vs:List Value) (h:o+vs.length<=c.size):(b0 c o vs).size=c.size:=by
 simp [b0]; omega
theorem z8 (c:Array Value) (vs:List Value) (h:vs.length=c.size):b0 c 0 vs=vs.toArray:=by
 simp [b0,h]
theorem lB {c:Array Value} {o:Nat} {vs:List Value} {p k:Nat} (hf:o+vs.length<=c.size) (h:p+k<=o ∨ o+vs.length<=p):aO (b0 c o vs) p k=aO c p k:=by
 apply ya;intro i;simp only [aO,b0,ym,AW];split
 ·rename_i a
  simp only [YF,bK,ey,ym,AW,SZ];rcases h with h|h
  ·rw [ai (by omega),ai (by omega),ai (by omega)]
  ·rw [af (by omega)]
   congr 1
   omega
 ·rfl
theorem jE {c:Array Value} {o:Nat} {vs:List Value} (hf:o+vs.length<=c.size):aO (b0 c o vs) o vs.length=vs:=by
 simp only [aO,b0];rw [eY,List.drop_append_of_le_length (by simp; omega),xZ (by simp; omega),u9,IE]

section
variable {P:Program} {w w0:World} {X:List Nat} {L:List Item} {S:ae} {K:Value->World->Prop}

theorem xi (h:Inv w0 X L S w) {T e:TypeId} {k by_:Nat} {z v:Value} (g:iP P T=some (e,k,by_,z)) (a:v.cells.size=k) (f:k<=65536) (j:0<k)
  (hk:∀ w',Inv w0 X (L++[.blk w.heap.size (.cells v.cells e)]) S w'->K (.slice (some ⟨w.heap.size,0,none⟩) 1 1) w') :
  Run P (bY T 1 [(0,v)]) w K:=by
 obtain ⟨l,i,m,o,q,D,r⟩:=oy g;refine Run.of (v:=.slice (some ⟨w.heap.size,0,none⟩) 1 1) (w':={ w with heap:=w.heap.push (.cells v.cells e) }) ?_ (hk _ (h.alloc _));have t:¬ (k > 2 ^ 24):=by omega
 have B:¬ k=0:=by omega
 have hf:Instr.fill (fun i=>some (i * k,k)) ((Array.range k).map (z.cells[· % z.cells.size]!)) [(0,v)]=some v.cells:=by
  simp only [Instr.fill,sz,dr,a,Array.size_map,Array.size_range,ne_eq,not_true_eq_false,decide_false,gt_iff_lt,Nat.lt_irrefl,Bool.or_self,if_false,H2];have:=QH v 0 ((Array.range k).map (z.cells[· % z.cells.size]!)) (by simp [a]);simp only [dr] at this;rw [this,z8 _ _ (by simp [a])]
 simp [bY,Instr.buildSlice,run_underlying l,sizeOf,typeInfo,m,q,t,B,zeroValue,o,hf,newRow,newObj,Sem.run]
theorem dQ (h:Inv w0 X L S w) {T e:TypeId} {k by_:Nat} {z v:Value} (g:iP P T=some (e,k,by_,z)) (i:v.cells.size=k) (a:k<=65536) (f:0<k)
  (hk:∀ b w',Inv w0 X (L++[.blk b (.cells v.cells e)]) S w'->K (.slice (some ⟨b,0,none⟩) 1 1) w') :
  Run P (bY T 1 [(0,v)]) w K:=xi h g i a f (hk _)
theorem fg (h:Inv w0 X L S w) {T e:TypeId} {k by_:Nat} {z:Value} (g:iP P T=some (e,k,by_,z))
  (hk:∀ v w',Inv w0 X (L++[.row v e k 0 []]) S w'->K v w') :
  Run P (bY T 0 []) w K:=by
 obtain ⟨j,i,l,r,t,a,m⟩:=oy g;have o:Inv w0 X (L++[.row (.slice (some ⟨w.heap.size,0,none⟩) 0 0) e k 0 []]) S { w with heap:=w.heap.push (.cells #[] e) }:=by
  refine h.addItem (w':={ w with heap:=w.heap.push (.cells #[] e) }) ⟨by simp,rfl,rfl,rfl,fun b a=>by simp [Array.getElem?_push,Nat.ne_of_lt a]⟩ ?_ ?_ ?_
  ·exact ⟨by simp,.inr ⟨w.heap.size,0,#[],rfl,bf _,by simp,be _,bf _,by simp,by simp⟩⟩
  ·simp [Item.foot,Value.ownBlock]
  ·simp [Item.foot,Value.ownBlock]
 refine Run.of (v:=.slice (some ⟨w.heap.size,0,none⟩) 0 0) (w':={ w with heap:=w.heap.push (.cells #[] e) }) ?_ (hk _ _ o);have q:∀ f:Nat->Value,(Array.range 0).map f=#[]:=fun f=>by simp
 simp [bY,Instr.buildSlice,run_underlying j,sizeOf,typeInfo,l,Instr.fill,newRow,newObj,Sem.run,q]

theorem Inv.rowNil (h:Inv w0 X L S w) (e:TypeId) (k:Nat):Inv w0 X (L++[.row (.slice none 0 0) e k 0 []]) S w:=
 h.addItem (Grow.refl w) (it:=.row (.slice none 0 0) e k 0 []) (World.ownsRow_nil w 0 e k) (by simp [Item.foot,Value.ownBlock]) (by simp [Item.foot,Value.ownBlock])

theorem Pb {P:Program} (w:World) (T ty e:TypeId) (h:TypeInfo) (z:Value) (D:P.underlying T=some (.slice e)) (G:P.info? e=some h) (V:h.zero=some z)
  {v J:Value} {n m B:Nat} {xs f:List Value} {a:Addr} {w':World} (o:w.ownsRow 0 e h.size v n xs)
  (hl:f.length=m * h.size) (i:∀ j u,f[j]?=some u->w.cell? (a.add j)=some u) (Z:∀ u∈f,u.oneCell'=true) (Y:n+m<=4294967296) (l:(n+m) * h.bytes<=140737488355328)
  (M:(Builtin.append_ #[T,T] ty #[v,.slice (some a) m B]).run P w=.ok J w') (t:J=.slice none 0 0↔v=.slice none 0 0/\m=0) :
  ∀ c,J.ownBlock=some c->v.ownBlock=some c ∨ w.heap.size<=c:=by
 intro c hc;rcases o.2 with ⟨rfl,rfl⟩|⟨g,cap,N,rfl,_,hg,a0,a1,O,U⟩
 ·by_cases hm:m=0
  ·rw [t.2 ⟨rfl,hm⟩] at hc;simp [Value.ownBlock] at hc
  ·have q:=run_append_nil (P:=P) (w:=w) T ty e h z D G V a m B f hl i (by omega) (by omega) (by simp only [dr] at l; omega);rw [M] at q;simp only [Result.ok.injEq] at q;rw [q.1] at hc;simp only [Value.ownBlock,aY] at hc;right; omega
 ·by_cases r:n+m<=cap
  ·have q:=run_append_room (P:=P) w T ty e h D G g n cap N hg a m B f hl i Z r (by rw [hl,O,<- Ej]; exact jw _ r);rw [M] at q;simp only [Result.ok.injEq] at q;rw [q.1] at hc;left; exact hc
  ·have q:=run_append_grow (P:=P) (w:=w) T ty e h z D G V ⟨g,0,none⟩ n cap xs o.1 (o.cells (g:=g) rfl) a m B f hl i (by omega) (by omega) (growslice_fits (by omega) l);rw [M] at q;simp only [Result.ok.injEq] at q;rw [q.1] at hc;simp only [Value.ownBlock,aY] at hc;right; omega

theorem eT (h:Inv w0 X L S w) {T ty e:TypeId} {k by_ n m Z b o:Nat} {z v:Value} {cs:List Bool} {xs:List Value} (i:Nat) (f:List Value)
  (hT:iP P T=some (e,k,by_,z)) (M:0<k) (hi:L[i]?=some (.row v e k n xs)) (hl:f.length=m * k)
  (t:∀ j u,f[j]?=some u->w.cell? ⟨b,o+j,none⟩=some u) (h1:∀ u∈f,u.oneCell'=true) (r:n+m<=4294967296) (N:by_<=32768)
  (hk:∀ B w',Inv w0 X (L.set i (.row B e k (n+m) (xs++f))) S w'->K B w') :
  Run P (ce .append #[T,T] ty cs [v,.slice (some ⟨b,o,none⟩) m Z]) w K:=by
 obtain ⟨hu,D,G,hz,U,hb,V⟩:=oy hT;have q:=h.its _ (cJ hi);simp only [Item.holds] at q;have g:(n+m) * by_<=140737488355328:=gM (DY r N) (by decide);have l:∀ j u,f[j]?=some u->w.cell? ((⟨b,o,none⟩:Addr).add j)=some u:=fun j u hj=>by rw [mK]; exact t j u hj
 obtain ⟨B,w',hr,h2,J,h4⟩:=run_append_own (P:=P) w 0 T ty e D z k by_ hu G hz U hb V M v n xs q ⟨b,o,none⟩ m Z f hl
  l h1 (by simp only [maxLen]; omega) g (bf _)
 have Y:=Pb (P:=P) w T ty e D z hu G hz (by rw [U]; exact q) (by rw [U]; exact hl) l h1 r (by rw [hb]; exact g) hr h4;refine Run.of (v:=B) (w':=w') ?_ (hk _ _ ?_)
 ·simp [ce,builtin,hr]
 ·refine h.change hi J.size J.os J.tape J.output (fun c hc O=>J.block c hc ?_) (it':=.row B e k (n+m) (xs++f)) h2 ?_ ?_
  ·intro e';exact O (by simp [Item.foot,<- e'])
  ·intro c hc;simp only [Item.foot,Option.mem_toList] at hc ⊢;exact Y c hc
  ·cases B <;> simp [Item.foot,Value.ownBlock];rename_i a _ _
   cases a <;> simp
end
def Fx (D:Nat->Bool):Nat->List Prop->Prop
 | _,[]=>True
 | k,p::l=>(D k=true->p)/\Fx D (k+1) l
def ab5 (D:Nat->Bool):Nat->List Prop->Prop
 | _,[]=>True
 | k,_::l=>D k=true/\ab5 D (k+1) l
def acN:List Prop->Prop
 | []=>True
 | p::l=>p/\acN l
theorem Fx.nil:∀ (k:Nat) (l:List Prop),Fx (fun _=>false) k l
 | _,[]=>trivial
 | k,_::l=>⟨aU,Fx.nil (k+1) l⟩
theorem Fx.low {D:Nat->Bool} {m:Nat}:∀ (k:Nat) (l:List Prop),m<k->Fx D k l->Fx (aC D m) k l
 | _,[],_,_=>trivial
 | k,p::l,hm,h=>⟨fun e=>h.1 (by
   have:Nat.beq k m=false:=by rw [bN]; intro a; have:=Pk a; omega
   simpa [aC,this] using e),Fx.low (k+1) l (by omega) h.2⟩
theorem Fx.setK {D:Nat->Bool} {p:Prop} (a:p):∀ (m k:Nat) (l:List Prop),Fx D k l->Fx (aC D (k+m)) k (l.set m p)
 | _,_,[],_=>trivial
 | 0,k,q::l,h=>⟨fun _=>a,Fx.low (k+1) l (by omega) h.2⟩
 | m+1,k,q::l,h=>⟨fun e=>h.1 (by
   have:Nat.beq k (k+(m+1))=false:=by rw [bN]; intro f; have:=Pk f; omega
   simpa [aC,this] using e),by
   have:=Fx.setK a m (k+1) l h.2
   rwa [show k+1+m=k+(m+1) by omega] at this⟩
theorem Fx.set {D:Nat->Bool} {l:List Prop} (h:Fx D 0 l) (m:Nat) {p:Prop} (a:p):Fx (aC D m) 0 (l.set m p):=by
 have:=Fx.setK a m 0 l h
 rwa [dr] at this
theorem Fx.allK {D:Nat->Bool}:∀ (k:Nat) (l:List Prop),Fx D k l->ab5 D k l->acN l
 | _,[],_,_=>trivial
 | k,_::l,h,hd=>⟨h.1 hd.1,Fx.allK (k+1) l h.2 hd.2⟩
theorem Fx.all {D:Nat->Bool} {l:List Prop} (h:Fx D 0 l) (hd:ab5 D 0 l:=by repeat (first|exact trivial|refine And.intro (by assumption) ?_)):acN l:=Fx.allK 0 l h hd
def aeG (P:Program) (t:TypeId):Option (List (Nat × TypeId)):=match P.underlying t with
 | some (.struct fs)=>some (fs.toList.map fun f=>(f.offset,f.type))
 | _=>none
end
end Go.Proofs.YtellfcpffcipcaaGreatDoor
