/- A verification condition over the model's code, structural in the code, and its soundness: 'vc' gives 'Code.wp', 'calls_of_vc' gives 'Calls'. It speaks of any program. -/
import Derived.Orders
import Derived.Calls
import Derived.Laws.Sem
import Derived.Below
import Derived.Laws.AppendOwn
import Derived.Laws.Cells
import Derived.Laws.CopyRow
import Derived.Laws.Entries
import Derived.IntWalk
import Derived.Lib.IndexBytes
namespace Go.Proofs.YtgllldjiaglkcaaGreatDoor
section
open Go
abbrev Xl:=@Array.getElem?_eq_some_iff
abbrev WJ:=@Array.getElem?_setIfInBounds_ne
abbrev YO:=@Array.getElem?_toList
abbrev Qp:=@Array.length_toList
abbrev Y4:=@Array.toList_eraseIdxIfInBounds
abbrev FE:=@Array.toList_inj
abbrev Vq:=@Array.toList_push
abbrev Yp:=@Array.toList_setIfInBounds
abbrev bM:=@Bool.and_eq_true
abbrev y5:=@Bool.and_false
abbrev bx:=@Bool.eq_false_iff
abbrev nZ:=@Bool.eq_iff_iff
abbrev iP:=@Bool.false_and
abbrev Ha:=@Bool.false_eq_true
abbrev iz:=@Bool.false_or
abbrev Ru:=@Bool.not_eq_false'
abbrev Ok:=@Bool.not_eq_true
abbrev o6:=@Bool.not_eq_true'
abbrev IQ:=@Bool.or_eq_false_iff
abbrev jc:=@Bool.or_eq_true
abbrev Sj:=@Bool.or_true
abbrev eH:=@Bool.true_and
abbrev zO:=@Bool.true_or
abbrev V0:=@Classical.byContradiction
abbrev Jq:=@Int.le_refl
abbrev cu:=@Int.toNat_natCast
abbrev nR:=@Int.toNat_of_nonneg
abbrev zL:=@List.Perm.append_left
abbrev IU:=@List.all_cons
abbrev dD:=@List.all_eq_true
abbrev fB:=@List.any_cons
abbrev Gd:=@List.any_eq_true
abbrev dx:=@List.append_assoc
abbrev Om:=@List.append_inj'
abbrev bV:=@List.append_nil
abbrev dK:=@List.cons.injEq
abbrev dS:=@List.cons_append
abbrev Sr:=@List.dropLast_concat_getLast
abbrev Rh:=@List.drop_drop
abbrev dY:=@List.drop_eq_getElem_cons
abbrev vK:=@List.drop_eq_nil_of_le
abbrev RP:=@List.drop_left
abbrev eC:=@List.drop_length
abbrev Um:=@List.drop_succ_cons
abbrev GU:=@List.drop_take
abbrev ym:=@List.drop_zero
abbrev gF:=@List.eq_nil_of_length_eq_zero
abbrev Wy:=@List.eq_nil_or_concat
abbrev Sb:=@List.eq_of_mem_replicate
abbrev U7:=@List.eraseIdx_eq_take_drop_succ
abbrev vO:=@List.ext_getElem?
abbrev UA:=@List.filterMap_cons
abbrev RU:=@List.filterMap_map
abbrev Ra:=@List.filter_append
abbrev Wf:=@List.filter_congr
abbrev rN:=@List.filter_cons
abbrev Oj:=@List.filter_eq_nil_iff
abbrev Rf:=@List.filter_filter
abbrev Q4:=@List.flatMap_append
abbrev rQ:=@List.flatMap_cons
abbrev T2:=@List.flatMap_nil
abbrev mG:=@List.flatten_append
abbrev fh:=@List.flatten_cons
abbrev k0:=@List.flatten_nil
abbrev x0:=@List.getD_eq_getElem?_getD
abbrev Wh:=@List.getElem?_append
abbrev wo:=@List.getElem?_append_left
abbrev gG:=@List.getElem?_append_right
abbrev kO:=@List.getElem?_cons_succ
abbrev IC:=@List.getElem?_cons_zero
abbrev z6:=@List.getElem?_drop
abbrev ew:=@List.getElem?_eq_getElem
abbrev Mi:=@List.getElem?_eq_none
abbrev fa:=@List.getElem?_eq_some_iff
abbrev Vw:=@List.getElem?_map
abbrev MN:=@List.getElem?_replicate
abbrev Dk:=@List.getElem?_set
abbrev yb:=@List.getElem?_set_ne
abbrev Rv:=@List.getElem?_set_self
abbrev wh:=@List.getElem?_take
abbrev fA:=@List.getElem_append_left
abbrev eZ:=@List.getElem_append_right
abbrev Uz:=@List.getElem_cons_succ
abbrev lc:=@List.getElem_cons_zero
abbrev RW:=@List.getElem_drop
abbrev EP:=@List.getElem_map
abbrev bG:=@List.getElem_mem
abbrev B0:=@List.getElem_of_mem
abbrev Ue:=@List.getElem_replicate
abbrev R6:=@List.getElem_set_ne
abbrev Oi:=@List.getElem_set_self
abbrev C3:=@List.getElem_take
abbrev bA:=@List.length_append
abbrev bq:=@List.length_cons
abbrev mi:=@List.length_drop
abbrev VI:=@List.length_filter_le
abbrev jO:=@List.length_map
abbrev bW:=@List.length_nil
abbrev UM:=@List.length_pos_iff
abbrev Ju:=@List.length_replicate
abbrev ly:=@List.length_set
abbrev lu:=@List.length_singleton
abbrev cM:=@List.length_take
abbrev KM:=@List.length_zip
abbrev BD:=@List.map_append
abbrev lr:=@List.map_cons
abbrev bF:=@List.mem_append
abbrev cZ:=@List.mem_append_left
abbrev fb:=@List.mem_append_right
abbrev bY:=@List.mem_cons
abbrev aR:=@List.mem_cons_of_mem
abbrev aM:=@List.mem_cons_self
abbrev LE:=@List.mem_filter
abbrev Eo:=@List.mem_flatMap
abbrev QB:=@List.mem_flatten
abbrev mT:=@List.mem_iff_getElem
abbrev dp:=@List.mem_map
abbrev cz:=@List.mem_of_getElem?
abbrev xz:=@List.mem_of_mem_drop
abbrev lB:=@List.mem_of_mem_take
abbrev E6:=@List.mem_or_eq_of_mem_set
abbrev bK:=@List.mem_singleton
abbrev fZ:=@List.nil_append
abbrev K0:=@List.nil_sublist
abbrev oB:=@List.nodup_append
abbrev ED:=@List.nodup_cons
abbrev xr:=@List.nodup_nil
abbrev i6:=@List.not_mem_nil
abbrev PZ:=@List.pairwise_append
abbrev F7:=@List.pairwise_cons
abbrev Wx:=@List.pairwise_iff_forall_sublist
abbrev cj:=@List.perm_append_comm
abbrev zal132:=@List.perm_middle
abbrev QP:=@List.prefix_refl
abbrev Qz:=@List.replicate_append_replicate
abbrev Pi:=@List.set_append_left
abbrev Kt:=@List.set_cons_succ
abbrev FG:=@List.set_eq_take_append_cons_drop
abbrev Pz:=@List.set_getElem_self
abbrev dt:=@List.sublist_append_left
abbrev dH:=@List.sublist_append_right
abbrev fH:=@List.sublist_cons_self
abbrev GA:=@List.take_append_drop
abbrev Gf:=@List.take_append_of_le_length
abbrev FZ:=@List.take_left
abbrev d4:=@List.take_length
abbrev Lj:=@List.take_of_length_le
abbrev tT:=@List.take_succ_cons
abbrev eV:=@List.take_succ_eq_append_getElem
abbrev lD:=@List.take_take
abbrev sS:=@List.take_zero
abbrev J0:=@Nat.add_assoc
abbrev sG:=@Nat.add_comm
abbrev AO:=@Nat.add_mul
abbrev xy:=@Nat.add_right_cancel_iff
abbrev mO:=@Nat.add_sub_cancel_left
abbrev tg:=@Nat.add_zero
abbrev KF:=@Nat.eq_of_beq_eq_true
abbrev sK:=@Nat.le_add_right
abbrev mL:=@Nat.le_of_ble_eq_true
abbrev LT:=@Nat.le_of_eq
abbrev aS:=@Nat.le_refl
abbrev PQ:=@Nat.le_succ_of_le
abbrev gz:=@Nat.le_trans
abbrev Lc:=@Nat.lt_or_ge
abbrev Qa:=@Nat.lt_succ_self
abbrev lw:=@Nat.min_eq_left
abbrev wY:=@Nat.mod_lt
abbrev L5:=@Nat.mul_le_mul
abbrev gM:=@Nat.mul_le_mul_right
abbrev PM:=@Nat.pow_le_pow_right
abbrev ey:=@Nat.sub_self
abbrev iX:=@Nat.succ_mul
abbrev cP:=@Nat.zero_add
abbrev bk:=@Nat.zero_le
abbrev AZ:=@Nat.zero_mul
abbrev Pp:=@Option.isSome_iff_exists
abbrev P5:=@Option.map_eq_some_iff
abbrev wV:=@Option.map_some
abbrev uH:=@Option.some.inj
abbrev aY:=@Option.some.injEq
abbrev cE:=@Prod.mk.injEq
abbrev gL:=@and_true
abbrev PH:=@beq_self_eq_true
abbrev gB:=@decide_eq_decide
abbrev ba:=@decide_eq_false
abbrev mK:=@decide_eq_false_iff_not
abbrev aN:=@decide_eq_true
abbrev bD:=@decide_eq_true_eq
abbrev xt:=@eq_comm
abbrev ag:=@if_neg
abbrev ai:=@if_pos
abbrev Pg:=@not_false_eq_true
abbrev i9:=@or_false
abbrev i7:=@true_and
theorem aI {P:Prop} (h:false=true):P:=Bool.noConfusion h

abbrev Env:=Nat->Value
def upd (ρ:Env) (d:Nat) (v:Value):Env:=fun t=>match Nat.beq t d with
 | true=>v
 | false=>ρ t
def vr (ρ:Env) (dst:Option Nat) (v:Value):Env:=match dst with
 | some d=>upd ρ d v
 | none=>ρ
def evE (ρ:Env):Operand->Value
 | .tmp t=>ρ t
 | .const v=>v
 | .global g=>.pointer (some ⟨g,0,none⟩)
 | .func f=>.func (.func f) #[] #[]

def Run (P:Program) (s:Sem Next) (w:World) (K:Value->World->Prop):Prop:=
 match s.run P w with
 | .ok (.value v) w'=>K v w'
 | .ok .skip w'=>K undef w'
 | .ok (.enter f args) w'=>Calls P f args w' fun
   | .returned v,w''=>K v w''
   | _,_=>False
 | _=>False

def ev0:Operand->Value:=evE fun _=>undef
def sOp (op:Op) (ty:TypeId):Sem Next:=execOp ev0 ⟨none,op,ty,"",#[],none⟩
def c9 (op:BinOp) (T:TypeId) (cx cy:Bool) (x y:Value):Sem Next:=do
 eqGuard op T (bif cx then .const x else .tmp 0) (bif cy then .const y else .tmp 0) x y
 pure (.value (<- binOp op T x y))
def cR (T:TypeId) (ps:List (Nat × Value)):Sem Next:=do pure (.value (<- Instr.build T ps.toArray))
def cd (T:TypeId) (n:Nat) (ps:List (Nat × Value)):Sem Next:=do pure (.value (<- Instr.buildSlice T n ps.toArray))
def eR (fn:Fn) (first captured:List Value):Sem Next:=do pure (.value (<- Instr.makeFunc fn first.toArray captured.toArray))
def ff (f:Value) (args:List Value):Sem Next:=do
 let d <- Deferred.ofValue f args.toArray
 invoke d.target d.args
def cm (b:Builtin) (ts:Array TypeId) (ty:TypeId) (cs:List Bool) (args:List Value):Sem Next:=
 builtin b ts ty cs.toArray args.toArray
def isC:Operand->Bool
 | .const _=>true
 | _=>false
def cl (ρ:Env) (x:Operand):Operand:=.const (evE ρ x)
def ZX (ρ:Env):Op->Op
 | .pick c a b=>.pick (cl ρ c) (cl ρ a) (cl ρ b)
 | .alloc e=>.alloc e
 | .box e v=>.box e (cl ρ v)
 | .load t a=>.load t (cl ρ a)
 | .store t a v=>.store t (cl ρ a) (cl ρ v)
 | .nilCheck x=>.nilCheck (cl ρ x)
 | .unOp o t x=>.unOp o t (cl ρ x)
 | .convert s d x=>.convert s d (cl ρ x)
 | .makeInterface t x=>.makeInterface t (cl ρ x)
 | .makeMap t r=>.makeMap t (r.map (cl ρ))
 | .makeSlice t l c=>.makeSlice t (cl ρ l) (cl ρ c)
 | .slice t x l h m=>.slice t (cl ρ x) (l.map (cl ρ)) (h.map (cl ρ)) (m.map (cl ρ))
 | .fieldAddr t x f=>.fieldAddr t (cl ρ x) f
 | .field t x f=>.field t (cl ρ x) f
 | .indexAddr t x i=>.indexAddr t (cl ρ x) (cl ρ i)
 | .index t x i=>.index t (cl ρ x) (cl ρ i)
 | .lookup t x i ok=>.lookup t (cl ρ x) (cl ρ i) ok
 | .mapUpdate t m k v=>.mapUpdate t (cl ρ m) (cl ρ k) (cl ρ v)
 | .range t x=>.range t (cl ρ x)
 | .next x b=>.next (cl ρ x) b
 | .extract t i=>.extract (cl ρ t) i
 | .typeAssert x t a ok=>.typeAssert (cl ρ x) t a ok
 | op=>op
def YY:Op->Bool
 | .pick ..|.alloc ..|.box ..|.load ..|.store ..|.nilCheck ..|.unOp ..|.convert ..|.makeInterface ..|.makeMap ..|.makeSlice ..|.slice ..
 | .fieldAddr ..|.field ..|.indexAddr ..|.index ..|.lookup ..|.mapUpdate ..|.range ..|.next ..|.extract ..|.typeAssert ..=>true
 | _=>false
def Nb (ρ:Env) (o:Oper):Sem Next:=match o.op with
 | .binOp op T x y _=>c9 op T (isC x) (isC y) (evE ρ x) (evE ρ y)
 | .build t ps=>cR t (ps.toList.map fun p=>(p.1,evE ρ p.2))
 | .buildSlice t n ps=>cd t n (ps.toList.map fun p=>(p.1,evE ρ p.2))
 | .makeFunc fn a b=>eR fn (a.toList.map (evE ρ)) (b.toList.map (evE ρ))
 | .call c=>match c.callee with
  | .value f=>ff (evE ρ f) (c.args.toList.map (evE ρ))
  | .builtin b=>cm b c.argTypes o.type (c.args.toList.map isC) (c.args.toList.map (evE ρ))
  | .invoke ..=>execOp (evE ρ) o
 | op=>match YY op with
  | true=>sOp (ZX ρ op) o.type
  | false=>execOp (evE ρ) o

def stepE (P:Program) (o:Oper) (ρ:Env) (w:World) (K:Value->World->Prop):Prop:=match o.op with
 | .move x|.assign x=>K (evE ρ x) w
 | _=>Run P (Nb ρ o) w K

def aq (v:Value) (b:Bool) (A B:Prop):Prop:=match v with
 | .bool c=>if c=b then A else B
 | _=>B
def GuardO (ops:List Oper) (ρ:Env) (g:Option (Nat × Bool)) (A B:Prop):Prop:=match g with
 | none=>A
 | some (j,b)=>match (ops[j]?).bind (·.dst) with
  | some d=>aq (ρ d) b A B
  | none=>B

def opE (P:Program) (ops:List Oper) (o:Oper) (ρ:Env) (w:World) (K:Env->World->Prop):Prop:=
 GuardO ops ρ o.guard (stepE P o ρ w fun v w'=>K (vr ρ o.dst v) w') (K (vr ρ o.dst undef) w)

def jZ (g h:Option (Nat × Bool)):Bool:=match g,h with
 | some (i,a),some (j,b)=>Nat.beq i j && (a == b)
 | none,none=>true
 | _,_=>false
def grp (g:Option (Nat × Bool)):List Oper->List Oper
 | []=>[]
 | o::os=>match jZ g o.guard with
  | true=>o::grp g os
  | false=>[]
def nP (g:Option (Nat × Bool)):List Oper->List Oper
 | []=>[]
 | o::os=>match jZ g o.guard with
  | true=>nP g os
  | false=>o::os
def Tw (P:Program):List Oper->Env->World->(Env->World->Prop)->Prop
 | [],ρ,w,K=>K ρ w
 | o::os,ρ,w,K=>stepE P o ρ w fun v w'=>Tw P os (vr ρ o.dst v) w' K
def Oc:List Oper->Env->Env
 | [],ρ=>ρ
 | o::os,ρ=>Oc os (vr ρ o.dst undef)
def CJ (P:Program) (all:List Oper) (n:Nat):List Oper->Env->World->(Env->World->Prop)->Prop:=
 Nat.rec (fun _ _ _ _=>False) (fun _ ih l ρ w K=>match l with
  | []=>K ρ w
  | o::os=>match o.guard with
   | none=>stepE P o ρ w fun v w'=>ih os (vr ρ o.dst v) w' K
   | some g=>GuardO all ρ (some g)
     (Tw P (o::grp (some g) os) ρ w fun ρ' w'=>ih (nP (some g) os) ρ' w' K)
     (ih (nP (some g) os) (Oc (o::grp (some g) os) ρ) w K)) n

def ao (D:Nat->Bool) (i:Nat):Nat->Bool:=fun j=>bif Nat.beq j i then true else D j
def vF:List Edge->(Nat->Bool)->Prop->Prop
 | [],_,p=>p
 | e::es,D,p=>match Region.binds .any e with
  | true=>D e.on=true->vF es D p
  | false=>vF es D p
def zS:Nat->(Nat->Bool)->Prop->Prop
 | 0,_,p=>p
 | n+1,D,p=>D n=true->zS n D p
def Cur (α:Type):List Nat->Type
 | []=>α
 | _::l=>Value->Cur α l
def ap {α:Type}:(l:List Nat)->Cur α l->Env->α
 | [],f,_=>f
 | m::l,f,ρ=>ap l (f (ρ m)) ρ
def lS:List Nat->Env->(Env->Prop)->Prop
 | [],ρ,p=>p ρ
 | m::l,ρ,p=>∀ x:Value,lS l (upd ρ m x) p

def pY:List Oper->List Nat->List Nat
 | [],l=>l
 | o::os,l=>match o.dst with
  | some d=>match l.elem d with
   | true=>pY os l
   | false=>pY os (d::l)
  | none=>pY os l
def Bt (P:Program) (all:List Oper) (M:List Nat) (A:(Nat->Bool)->Cur (World->Prop) M) (ρ:Env):Nat->List Oper->Prop
 | _,[]=>True
 | i,o::os=>(∀ D,D i=false->vF o.after.toList D (lS M ρ fun ρ'=>∀ w',ap M (A D) ρ' w'->
   opE P all o ρ' w' fun ρ'' w''=>ap M (A (ao D i)) ρ'' w''))/\Bt P all M A ρ (i+1) os
def Qr (P:Program) (ops:List Oper) (ρ:Env) (w:World) (K:Env->World->Prop):Prop:=
 ∃ A:(Nat->Bool)->Cur (World->Prop) (pY ops []),ap (pY ops []) (A fun _=>false) ρ { w with drawn:=w.drawn+1 }/\
  Bt P ops (pY ops []) A ρ 0 ops/\
  ∀ D,zS ops.length D (lS (pY ops []) ρ fun ρ'=>∀ w',ap (pY ops []) (A D) ρ' w'->K ρ' w')

inductive An where
 | leaf
 | seq (cut:Option (List Nat)) (l r:An)
 | two (l r:An)
 | one (l:An)
 | loop (live:List Nat) (l:An)
def An.cut:An->Option (List Nat)
 | .seq c _ _=>c
 | _=>none
def An.l:An->An
 | .seq _ a _|.two a _|.one a|.loop _ a=>a
 | .leaf=>.leaf
def An.r:An->An
 | .seq _ _ b|.two _ b=>b
 | _=>.leaf
def An.live:An->List Nat
 | .loop l _=>l
 | _=>[]

def wr:Code->List Nat->List Nat
 | .region _ ops _,l=>pY ops.toList l
 | .seq a b,l=>wr b (wr a l)
 | .cond _ a b,l=>wr b (wr a l)
 | .block _ a,l|.loop a,l|.scope a,l=>wr a l
 | _,l=>l

abbrev Cr (K:Env->World->Prop) (Q:Exit->Env->World->Prop):Exit->Env->World->Prop
 | .normal,ρ,w=>K ρ w
 | e,ρ,w=>Q e ρ w
abbrev QZ (id:Nat) (Q:Exit->Env->World->Prop):Exit->Env->World->Prop
 | .exit id',ρ,w=>match Nat.beq id' id with
  | true=>Q .normal ρ w
  | false=>Q (.exit id') ρ w
 | e,ρ,w=>Q e ρ w

def CondV (v:Value) (A B:Prop):Prop:=match v with
 | .bool c=>if c=true then A else B
 | _=>False

def vc (P:Program):Code->An->(Exit->Env->World->Prop)->Env->World->Prop
 | .skip,_,Q,ρ,w=>Q .normal ρ w
 | .ret,_,Q,ρ,w=>Q .ret ρ w
 | .exit id,_,Q,ρ,w=>Q (.exit id) ρ w
 | .region _ ops draw,_,Q,ρ,w=>
  match draw with
  | true=>Qr P ops.toList ρ w (Q .normal)
  | false=>CJ P ops.toList (ops.toList.length+1) ops.toList ρ w (Q .normal)
 | .seq a b,an,Q,ρ,w=>match an.cut with
  | none=>vc P a an.l (Cr (vc P b an.r Q) Q) ρ w
  | some lv=>∃ J:Cur (World->Prop) lv,vc P a an.l (Cr (ap lv J) Q) ρ w/\
    lS (wr a []) ρ fun ρ'=>∀ w',ap lv J ρ' w'->vc P b an.r Q ρ' w'
 | .cond c a b,an,Q,ρ,w=>CondV (evE ρ c) (vc P a an.l Q ρ w) (vc P b an.r Q ρ w)
 | .block id a,an,Q,ρ,w=>vc P a an.l (QZ id Q) ρ w
 | .loop a,an,Q,ρ,w=>∃ (I:Cur (World->Prop) an.live) (μ:Cur (World->Nat) an.live),ap an.live I ρ w/\
   lS (wr a []) ρ fun ρ'=>∀ w',ap an.live I ρ' w'->
    vc P a an.l (Cr (fun ρ'' w''=>ap an.live I ρ'' w''/\ap an.live μ ρ'' w''<ap an.live μ ρ' w') Q) ρ' w'
 | _,_,_,_,_=>False
end
section
open Go

def Tt (n:Nat):Operand->Bool
 | .tmp t=>Nat.blt t n
 | _=>true
def Rz:Op->Bool
 | .select _ _=>false
 | _=>true
def LF (n:Nat):Option Nat->Bool
 | some d=>Nat.blt d n
 | none=>true
def kr (j d:Nat):Nat->List Oper->Bool
 | _,[]=>true
 | i,o::os=>(Nat.beq i j || !(o.dst == some d)) && kr j d (i+1) os
def oP (n:Nat) (all:List Oper):Option (Nat × Bool)->Bool
 | none=>true
 | some (j,_)=>match (all[j]?).bind (·.dst) with
  | some d=>Nat.blt d n && kr j d 0 all
  | none=>false
def n6 (n:Nat) (all:List Oper) (o:Oper):Bool:=
 Rz o.op && LF n o.dst && o.op.operands.toList.all (Tt n) && oP n all o.guard
def Sz (i:Nat):List Edge->Bool
 | []=>true
 | e::es=>(!Region.binds .any e || Nat.blt e.on i) && Sz i es
def EA:Nat->List Oper->Bool
 | _,[]=>true
 | i,o::os=>Sz i o.after.toList && EA (i+1) os
def kW:Nat->List Oper->Bool
 | _,[]=>true
 | i,o::os=>(match o.guard with|none=>true|some (j,_)=>Nat.blt j i) && kW (i+1) os
def Aq (n:Nat):Code->Bool
 | .skip|.ret|.exit _=>true
 | .region _ ops draw=>ops.toList.all (n6 n ops.toList) && kW 0 ops.toList && (!draw || EA 0 ops.toList)
 | .seq a b=>Aq n a && Aq n b
 | .cond c a b=>Tt n c && Aq n a && Aq n b
 | .block _ a|.loop a=>Aq n a
 | _=>false

structure Rel (n:Nat) (ρ:Env) (a:Act):Prop where
 size:a.tmps.size=n
 at_:∀ t,t<n->a.tmps[t]?=some (ρ t)
 out:∀ t,n<=t->ρ t=undef
 defers:a.defers=[]

theorem Rel.eval {n:Nat} {ρ:Env} {a:Act} (h:Rel n ρ a) {x:Operand} (f:Tt n x=true):a.eval x=evE ρ x:=by
 cases x with
 | tmp t=>
  have g:t<n:=by simpa [Tt,Nat.blt_eq] using f
  simp [Act.eval,evE,Array.getD_eq_getD_getElem?,h.at_ t g]
 | _=>rfl

theorem Gp (ρ:Env) (d:Nat) (v:Value):upd ρ d v d=v:=by simp [upd]
theorem s7 (ρ:Env) {d t:Nat} (v:Value) (h:t≠d):upd ρ d v t=ρ t:=by
 have:Nat.beq t d=false:=by simpa [<- Bool.not_eq_true] using h
 simp [upd,this]

theorem Rel.put {n:Nat} {ρ:Env} {a:Act} (h:Rel n ρ a) {f:Option Nat} (hd:LF n f=true) (v:Value) :
  Rel n (vr ρ f v) (a.put f v):=by
 cases f with
 | none=>exact h
 | some d=>
  have i:d<n:=by simpa [LF,Nat.blt_eq] using hd
  refine ⟨by simp [Act.put,h.size],fun t g=>?_,fun t g=>by rw [vr,s7 ρ v (by omega)]; exact h.out t g,h.defers⟩;by_cases e:t=d
  ·subst e;simp [Act.put,vr,Gp,h.size,g]
  ·simp only [Act.put,vr,s7 ρ v e];rw [WJ (by omega)];exact h.at_ t g

theorem O4 {n:Nat} {ρ:Env} {a:Act} (h:Rel n ρ a) {o:Oper} (f:Rz o.op=true)
  (g:o.op.operands.toList.all (Tt n)=true):execOp a.eval o=execOp (evE ρ) o:=by
 refine execOp_congr o ?_ ?_
 ·intro cs b e; rw [e] at f; simp [Rz] at f
 ·intro x i;exact h.eval (dD.1 g x (Array.mem_toList_iff.2 i))

theorem RI (ρ:Env) (o:Oper):execOp (evE ρ) o=Nb ρ o:=by
 obtain ⟨J,op,D,pos,q,B⟩:=o;cases op <;> try rfl
 case binOp op T x y u=>
  have O:∀ (x:Operand),(match (bif isC x then Operand.const (evE ρ x) else .tmp 0) with|.const _=>true|_=>false)=(match x with|.const _=>true|_=>false):=by
   intro x; cases x <;> rfl
  simp only [execOp,Nb,c9];have M:eqGuard op T x y (evE ρ x) (evE ρ y)=eqGuard op T (bif isC x then Operand.const (evE ρ x) else .tmp 0) (bif isC y then Operand.const (evE ρ y) else .tmp 0) (evE ρ x) (evE ρ y):=by
   cases x <;> cases y <;> rfl
  rw [M];exact bind_assoc _ _ _
 case build t ps=>
  simp only [execOp,Nb,cR]
  congr 2
  exact (FE.1 (by simp))
 case buildSlice t n ps=>
  simp only [execOp,Nb,cd]
  congr 2
  exact (FE.1 (by simp))
 case makeFunc fn a b=>
  simp only [execOp,Nb,eR]
  congr 2
  ·exact (FE.1 (by simp))
  ·exact (FE.1 (by simp))
 case makeMap t r=>cases r <;> rfl
 case slice t x l h m=>cases l <;> cases h <;> cases m <;> rfl
 case call c=>
  obtain ⟨g,args,i⟩:=c;have G:args.map (evE ρ)=(args.toList.map (evE ρ)).toArray:=FE.1 (by simp);cases g with
  | value f=>
   simp only [execOp,Nb,ff,resolve,G]
  | builtin b=>
   have N:(args.map fun (x:Operand)=>(match x with|.const _=>true|_=>false))=(args.toList.map isC).toArray:=FE.1 (by
    simp only [Array.toList_map]
    congr 1)
   simp only [execOp,Nb,cm,resolve,G];rw [<- N];rfl
  | invoke r m=>rfl

theorem stepE.run {P:Program} {o:Oper} {ρ:Env} {w:World} {K:Value->World->Prop} (h:stepE P o ρ w K):Run P (execOp (evE ρ) o) w K:=by
 rw [RI];obtain ⟨i,op,g,pos,a,f⟩:=o;cases op <;> exact h
theorem Run.step {P:Program} {o:Oper} {ρ:Env} {w:World} {K:Value->World->Prop} (h:Run P (execOp (evE ρ) o) w K):stepE P o ρ w K:=by
 rw [RI] at h;obtain ⟨i,op,g,pos,a,f⟩:=o;cases op <;> exact h
theorem Run.mono {P:Program} {s:Sem Next} {w:World} {K K':Value->World->Prop} (h:Run P s w K) (hk:∀ v w,K v w->K' v w) :
  Run P s w K':=by
 unfold Run at *;split at h
 ·exact hk _ _ h
 ·exact hk _ _ h
 ·exact Calls.mono h fun e w' a=>by cases e <;> first|exact hk _ _ a|exact a
 ·exact h.elim

theorem stepE.mono {P:Program} {o:Oper} {ρ:Env} {w:World} {K K':Value->World->Prop} (h:stepE P o ρ w K) (hk:∀ v w,K v w->K' v w) :
  stepE P o ρ w K':=Run.step (Run.mono h.run hk)

theorem Run.wp {P:Program} {n:Nat} {ρ:Env} {a:Act} {w:World} {o:Oper} {K:Value->World->Prop} {next:Act->World->Prop}
  {Q:Exit->Act->World->Prop} (g:Rel n ρ a) (i:Rz o.op=true) (l:o.op.operands.toList.all (Tt n)=true)
  (h:Run P (execOp (evE ρ) o) w K) (hk:∀ v w',K v w'->next (a.put o.dst v) w'):o.wp P a w next Q:=by
 unfold Oper.wp;rw [O4 g i l];unfold Run at h;split at h
 ·rename_i e; rw [e]; exact hk _ _ h
 ·rename_i e; rw [e]; exact hk _ _ h
 ·rename_i e; rw [e]
  exact Calls.mono h fun e w' f=>by cases e <;> first|exact hk _ _ f|exact f.elim
 ·exact h.elim

theorem yr {n:Nat} {ρ:Env} {a:Act} (l:Rel n ρ a) {ops:Array Oper} {o:Oper} {A B:Prop}
  (f:oP n ops.toList o.guard=true) (h:GuardO ops.toList ρ o.guard A B) :
  (Region.wanted o (yielded ops a.tmps)=true/\A) ∨ (Region.wanted o (yielded ops a.tmps)=false/\B):=by
 unfold Region.wanted;cases i:o.guard with
 | none=>rw [i] at h; exact .inl ⟨rfl,h⟩
 | some g=>
  obtain ⟨j,b⟩:=g;rw [i] at h f;simp only [GuardO,oP,yielded,YO] at *;cases hd:(ops[j]?).bind (·.dst) with
  | none=>rw [hd] at f; simp at f
  | some d=>
   rw [hd] at h f;simp only [bM,Nat.blt_eq] at f;simp only [Option.bind_some,l.at_ d f.1];simp only [aq] at h;split at h
   ·rename_i c hc
    rw [hc];split at h
    ·rename_i e; subst e; exact .inl ⟨by simp,h⟩
    ·rename_i e; exact .inr ⟨by simpa using e,h⟩
   ·rename_i m
    refine .inr ⟨?_,h⟩;cases hc:ρ d <;> first|exact absurd hc (m _)|simp

theorem Bd {P:Program} {n:Nat} {ops:Array Oper} {o:Oper} {ρ:Env} {a:Act} {w:World} {K:Env->World->Prop}
  {next:Act->World->Prop} {Q:Exit->Act->World->Prop} {i:Nat} (l:ops[i]?=some o) (g:Rel n ρ a) (hf:n6 n ops.toList o=true)
  (h:opE P ops.toList o ρ w K) (hk:∀ v w',K (vr ρ o.dst v) w'->next (a.put o.dst v) w') :
  wpOp P ops Q i next a w:=by
 simp only [n6,bM] at hf;obtain ⟨⟨⟨m,D⟩,q⟩,r⟩:=hf;unfold wpOp;rw [l];simp only [];rcases yr g r h with ⟨f,t⟩|⟨f,B⟩
 ·rw [ai f]; exact .inl (t.run.wp g m q hk)
 ·rw [ag (by simp [f])]; exact hk _ _ B

theorem tu (i m:Nat):List.range' i (m+1)=i::List.range' (i+1) m:=rfl

theorem mC {j d:Nat}:∀ (l:List Oper) (k:Nat),kr j d k l=true->∀ i o,l[i]?=some o->k+i≠j->o.dst≠some d
 | [],_,_,i,o,hi,_=>by simp at hi
 | x::xs,k,h,i,o,hi,hne=>by
  simp only [kr,bM,jc,Nat.beq_eq,o6,beq_eq_false_iff_ne] at h;cases i with
  | zero=>
   simp only [IC,aY] at hi;subst hi;rcases h.1 with e|e
   ·exact absurd (by simpa using e) (by omega)
   ·exact e
  | succ i=>
   rw [kO] at hi;exact mC xs (k+1) h.2 i o hi (by omega)

theorem Ic {g h:Option (Nat × Bool)}:jZ g h=true↔g=h:=by
 cases g <;> cases h <;> simp [jZ,Prod.ext_iff]

theorem Af (g:Option (Nat × Bool)):∀ l:List Oper,l=grp g l++nP g l
 | []=>rfl
 | o::os=>by
  simp only [grp,nP];cases h:jZ g o.guard <;> simp;exact Af g os
theorem Rd (g:Option (Nat × Bool)):∀ (l:List Oper) (o:Oper),o∈grp g l->o.guard=g
 | [],_,h=>by simp [grp] at h
 | x::xs,o,h=>by
  simp only [grp] at h;cases e:jZ g x.guard with
  | false=>rw [e] at h; simp at h
  | true=>
   rw [e] at h;rcases bY.1 h with rfl|h
   ·exact (Ic.1 e).symm
   ·exact Rd g xs o h
theorem zV (g:Option (Nat × Bool)):∀ l:List Oper,(nP g l).length<=l.length
 | []=>by simp [nP]
 | x::xs=>by
  simp only [nP];cases jZ g x.guard
  ·simp
  ·simpa using PQ (zV g xs)

section ops
variable {P:Program} {n:Nat} {ops:Array Oper} {Q:Exit->Act->World->Prop}
def Ei (n:Nat) (ops:Array Oper):Prop:=∀ o∈ops.toList,n6 n ops.toList o=true

theorem Fl (hf:Ei n ops) {j d:Nat} {b:Bool} (B:(ops.toList[j]?).bind (·.dst)=some d) :
  ∀ (l:List Oper) (i:Nat) (ρ:Env) (a:Act) (w:World) (K:Env->World->Prop) (rest:List Nat),
   (∀ k o,l[k]?=some o->ops.toList[i+k]?=some o/\o.guard=some (j,b))->j<i->ρ d=.bool b->Rel n ρ a->Tw P l ρ w K->
   (∀ g U w',Rel n g U->K g w'->wpOps P ops Q rest U w')->wpOps P ops Q (List.range' i l.length++rest) a w
 | [],i,ρ,a,w,K,rest,_,_,_,hr,h,hk=>hk _ _ _ hr h
 | o::os,i,ρ,a,w,K,rest,hl,hji,hd,hr,h,hk=>by
  obtain ⟨t,O⟩:=hl 0 o rfl;rw [tg] at t;have hm:o∈ops.toList:=cz t;have m:=hf o hm;have J:ops[i]?=some o:=by simpa using t
  have f:=m;simp only [n6,bM] at f;obtain ⟨⟨⟨h1,Z⟩,h3⟩,G⟩:=f;have M:kr j d 0 ops.toList=true:=by
   rw [O] at G; simp only [oP,B,bM] at G; exact G.2
  have N:o.dst≠some d:=mC _ 0 M i o t (by omega);rw [bq,tu,dS,wpOps_cons];refine Bd (ρ:=ρ) (w:=w) (K:=fun g w'=>(g d=.bool b)/\Tw P os g w' K) J hr m ?_ ?_
  ·unfold opE;rw [O];simp only [GuardO,B,aq,hd,if_true];refine stepE.mono h fun v w' r=>⟨?_,r⟩
   cases q:o.dst with
   | none=>exact hd
   | some e=>rw [vr,s7]; exact hd; intro V; exact N (by rw [q,V])
  ·intro v w' r;exact Fl hf B os (i+1) _ _ w' K rest (fun k Y D=>by
    have:=hl (k+1) Y (by simpa using D);rw [show i+1+k=i+(k+1) by omega]; exact this) (by omega) r.1 (hr.put Z v) r.2 hk

theorem BS (hf:Ei n ops) {j d:Nat} {b:Bool} (q:(ops.toList[j]?).bind (·.dst)=some d) :
  ∀ (l:List Oper) (i:Nat) (ρ:Env) (a:Act) (w:World) (rest:List Nat),
   (∀ k o,l[k]?=some o->ops.toList[i+k]?=some o/\o.guard=some (j,b))->j<i->ρ d≠.bool b->Rel n ρ a->
   (∀ N,Rel n (Oc l ρ) N->wpOps P ops Q rest N w)->wpOps P ops Q (List.range' i l.length++rest) a w
 | [],i,ρ,a,w,rest,_,_,_,hr,hk=>hk _ hr
 | o::os,i,ρ,a,w,rest,hl,hji,hd,hr,hk=>by
  obtain ⟨m,M⟩:=hl 0 o rfl;rw [tg] at m;have Y:o∈ops.toList:=cz m;have t:=hf o Y;have B:ops[i]?=some o:=by simpa using m
  have f:=t;simp only [n6,bM] at f;obtain ⟨⟨⟨h1,V⟩,h3⟩,g⟩:=f;have D:kr j d 0 ops.toList=true:=by
   rw [M] at g; simp only [oP,q,bM] at g; exact g.2
  have G:o.dst≠some d:=mC _ 0 D i o m (by omega);have J:vr ρ o.dst undef d=ρ d:=by
   cases h:o.dst with
   | none=>rfl
   | some e=>rw [vr,s7]; intro O; exact G (by rw [h,O])
  rw [bq,tu,dS,wpOps_cons];have Z:=g;have hB:GuardO ops.toList ρ o.guard False True:=by
   rw [M]; simp only [GuardO,q,aq];split
   ·rename_i c hc
    split
    ·rename_i e; subst e; exact absurd hc hd
    ·trivial
   ·trivial
  rcases yr hr g hB with ⟨_,hF⟩|⟨hw,_⟩
  ·exact hF.elim
  ·unfold wpOp;rw [B];simp only [hw,Ha,if_false];exact BS hf q os (i+1) _ _ w rest (fun k U r=>by
    have:=hl (k+1) U (by simpa using r);rw [show i+1+k=i+(k+1) by omega]; exact this) (by omega) (by rw [J]; exact hd) (hr.put V undef) hk

theorem rX:∀ (l:List Oper) (k:Nat),kW k l=true->∀ i o j b,l[i]?=some o->o.guard=some (j,b)->j<k+i
 | [],_,_,i,o,_,_,hi,_=>by simp at hi
 | x::xs,k,h,i,o,j,b,hi,hg=>by
  simp only [kW,bM] at h;cases i with
  | zero=>
   simp only [IC,aY] at hi;subst hi;have:=h.1;rw [hg] at this;simpa [Nat.blt_eq] using this
  | succ i=>
   rw [kO] at hi;have:=rX xs (k+1) h.2 i o j b hi hg;omega

theorem NC (hf:Ei n ops) (hb:kW 0 ops.toList=true) :
  ∀ (m:Nat) (l:List Oper) (i:Nat) (ρ:Env) (a:Act) (w:World) (K:Env->World->Prop),l.length<m->
   ops.toList.drop i=l->Rel n ρ a->CJ P ops.toList m l ρ w K->
   (∀ M N w',Rel n M N->K M w'->Q .normal N w')->wpOps P ops Q (List.range' i l.length) a w:=by
 intro m;induction m with
 | zero=>intro l i ρ a w K G; omega
 | succ m ih=>
  intro l i ρ a w K G hl U h hk;cases l with
  | nil=>exact hk _ _ _ U h
  | cons o os=>
   have r:∀ k,(o::os)[k]?=ops.toList[i+k]?:=fun k=>by rw [<- hl,z6]
   have h0:ops.toList[i]?=some o:=by have:=r 0; simpa using this.symm
   have hm:o∈ops.toList:=cz h0;have V:=hf o hm;have a1:ops[i]?=some o:=by simpa using h0
   have t:=V;simp only [n6,bM] at t;obtain ⟨⟨⟨h1,h2⟩,h3⟩,h4⟩:=t;have a2:ops.toList.drop (i+1)=os:=by rw [<- Rh,hl]; rfl
   simp only [CJ] at h ih;cases O:o.guard with
   | none=>
    rw [O] at h;simp only [] at h;rw [bq,tu,wpOps_cons];refine Bd (ρ:=ρ) (w:=w) (K:=fun M w'=>CJ P ops.toList m os M w' K) a1 U V ?_ ?_
    ·unfold opE; rw [O]; exact h
    ·intro v w' hh;exact ih os (i+1) _ _ w' K (by simp at G; omega) a2 (U.put h2 v) hh hk
   | some g=>
    obtain ⟨j,b⟩:=g;rw [O] at h;simp only [] at h;have f:=Af (some (j,b)) os;have Y:j<i:=by have:=rX _ 0 hb i o j b h0 O; omega
    obtain ⟨d,hj⟩:∃ d,(ops.toList[j]?).bind (·.dst)=some d:=by
     rw [O] at h4;simp only [oP] at h4;cases hd:(ops.toList[j]?).bind (·.dst) with
     | none=>rw [hd] at h4; simp at h4
     | some d=>exact ⟨d,rfl⟩
    have B:∀ k x,(o::grp (some (j,b)) os)[k]?=some x->ops.toList[i+k]?=some x/\x.guard=some (j,b):=by
     intro k x hx;have a3:(o::os)[k]?=some x:=by
      rw [f,<- dS,wo]
      ·exact hx
      ·exact (fa.1 hx).1
     refine ⟨by rw [<- r k]; exact a3,?_⟩;rcases bY.1 (cz hx) with rfl|a0
     ·exact O
     ·exact Rd _ _ _ a0
    have Z:(o::os).length=(o::grp (some (j,b)) os).length+(nP (some (j,b)) os).length:=by
     have:=congrArg List.length f;simp only [bA] at this;simp only [bq]; omega
    have q:ops.toList.drop (i+(o::grp (some (j,b)) os).length)=nP (some (j,b)) os:=by
     rw [<- Rh,hl];have e:o::os=(o::grp (some (j,b)) os)++nP (some (j,b)) os:=by rw [dS,<- f]
     rw [e,RP]
    have D:(nP (some (j,b)) os).length<m:=by
     have:=zV (some (j,b)) os;simp at G; omega
    rw [Z,<- List.range'_append_1];simp only [GuardO,hj] at h;by_cases hd:ρ d=.bool b
    ·rw [hd] at h;simp only [aq,if_true] at h;exact Fl hf hj _ i ρ a w _ _ B Y hd U h fun M N w' J hh=>ih _ _ M N w' K D q J hh hk
    ·have hB:CJ P ops.toList m (nP (some (j,b)) os) (Oc (o::grp (some (j,b)) os) ρ) w K:=by
      simp only [aq] at h;split at h
      ·rename_i c hc
       split at h
       ·rename_i e; subst e; exact absurd hc hd
       ·exact h
      ·exact h
     exact BS hf hj _ i ρ a w _ B Y hd U fun N J=>ih _ _ _ N w K D q J hB hk

theorem wE:∀ (l:List Edge) {D:Nat->Bool} {p:Prop},vF l D p->(∀ e∈l,Region.binds .any e=true->D e.on=true)->p
 | [],_,_,h,_=>h
 | e::es,D,p,h,hd=>by
  simp only [vF] at h;cases g:Region.binds .any e with
  | false=>rw [g] at h; exact wE es h fun f a=>hd f (aR _ a)
  | true=>rw [g] at h; exact wE es (h (hd e (aM ..) g)) fun f a=>hd f (aR _ a)
theorem xT {D:Nat->Bool} {p:Prop}:∀ n:Nat,zS n D p->(∀ i,i<n->D i=true)->p
 | 0,h,_=>h
 | n+1,h,hd=>xT n (h (hd n (Qa n))) fun i a=>hd i (by omega)
def Rs (P:Program) (all:List Oper) (A:(Nat->Bool)->Env->World->Prop):Nat->List Oper->Prop
 | _,[]=>True
 | i,o::os=>(∀ D ρ w,D i=false->vF o.after.toList D (A D ρ w->opE P all o ρ w fun ρ' w'=>A (ao D i) ρ' w'))/\Rs P all A (i+1) os
theorem wA {A:(Nat->Bool)->Env->World->Prop} {all:List Oper}:∀ (l:List Oper) (k i:Nat) (o:Oper),Rs P all A k l->l[i]?=some o->
  ∀ D ρ w,D (k+i)=false->vF o.after.toList D (A D ρ w->opE P all o ρ w fun a w'=>A (ao D (k+i)) a w')
 | [],_,i,_,_,hi=>by simp at hi
 | x::xs,k,0,o,h,hi=>by
  simp only [IC,aY] at hi;subst hi;exact h.1
 | x::xs,k,i+1,o,h,hi=>by
  rw [kO] at hi;have:=wA xs (k+1) i o h.2 hi;rw [show k+1+i=k+(i+1) by omega] at this;exact this
theorem JQ:∀ (l:List Edge) {i:Nat},Sz i l=true->∀ e∈l,Region.binds .any e=true->e.on<i
 | [],_,_,e,a=>by simp at a
 | x::xs,i,h,e,a=>by
  simp only [Sz,bM,jc,o6,Nat.blt_eq] at h;rcases bY.1 a with rfl|a
  ·intro g;rcases h.1 with f|f
   ·rw [f] at g; cases g
   ·exact f
  ·exact JQ xs h.2 e a
theorem Ja:∀ (l:List Oper) (k:Nat),EA k l=true->∀ i o,l[i]?=some o->∀ e∈o.after.toList,Region.binds .any e=true->e.on<k+i
 | [],_,_,i,o,hi=>by simp at hi
 | x::xs,k,h,i,o,hi=>by
  simp only [EA,bM] at h;cases i with
  | zero=>
   simp only [IC,aY] at hi;subst hi;exact fun e a=>JQ _ h.1 e a
  | succ i=>
   rw [kO] at hi;intro e a f;have:=Ja xs (k+1) h.2 i o hi e a f;omega

theorem Aj {ops:Array Oper} {a:Array Bool} {i:Nat}:i∈Region.ready .any ops a ↔
  i<ops.size/\a.getD i true=false/\∃ o,ops[i]?=some o/\∀ e∈o.after.toList,Region.binds .any e=true->a.getD e.on false=true:=by
 simp only [Region.ready,LE,List.mem_range,bM,o6];constructor
 ·rintro ⟨f,l,g⟩;refine ⟨f,l,ops[i],by simp [f],fun e q h=>?_⟩;simp only [f,getElem?_pos,wV,Option.getD_some,Array.all_eq_true] at g;obtain ⟨k,hk,rfl⟩:=B0 q;have:=g k (by simpa using hk);simp only [Array.getElem_toList] at h ⊢;rw [h] at this;simpa using this
 ·rintro ⟨f,l,o,m,g⟩;refine ⟨f,l,?_⟩;rw [m];simp only [wV,Option.getD_some,Array.all_eq_true];intro k hk;cases h:Region.binds .any (o.after[k]) with
  | false=>simp
  | true=>simpa using g _ (by simp) h

theorem Pc {ops:Array Oper} {a:Array Bool} (m:a.size=ops.size) (o:EA 0 ops.toList=true)
  (h:Region.ready .any ops a=[]):∀ i,i<ops.size->a.getD i false=true:=by
 intro i;induction i using Nat.strongRecOn with
 | _ i r=>
  intro f;by_cases hl:a.getD i false=true
  ·exact hl
  ·exfalso;have l:i<a.size:=by omega
   have:i∈Region.ready .any ops a:=by
    rw [Aj];refine ⟨f,?_,ops[i],by simp [f],fun e q g=>?_⟩
    ·simpa [Array.getD_eq_getD_getElem?,l] using hl
    ·have:=Ja _ 0 o i ops[i] (by simp [f]) e q g;exact r e.on (by omega) (by omega)
   rw [h] at this;simp at this

theorem Vg {a:Array Bool} {i:Nat} (f:i<a.size) (j:Nat) :
  (a.setIfInBounds i true).getD j false=ao (fun j=>a.getD j false) i j:=by
 simp only [ao,Array.getD_eq_getD_getElem?];by_cases e:j=i
 ·subst e;simp [f]
 ·rw [WJ (by omega)];simp [e]

theorem Pr (hf:Ei n ops) (hb:EA 0 ops.toList=true) {A:(Nat->Bool)->Env->World->Prop}
  (hA:Rs P ops.toList A 0 ops.toList) 
  (hQ:∀ D ρ a w,Rel n ρ a->(∀ i,i<ops.size->D i=true)->A D ρ w->Q .normal a w) :
  ∀ (fuel:Nat) (f:Array Bool) (ρ:Env) (a:Act) (w:World),f.size=ops.size->Rel n ρ a->A (fun j=>f.getD j false) ρ w->
   (∀ k,k+fuel=ops.size->k<=(f.toList.filter id).length)->
   wpAny P .any ops Q fuel f a w:=by
 intro fuel;induction fuel with
 | zero=>
  intro f ρ a w t J h g;have hc:=g ops.size (by omega);have r:∀ i,i<ops.size->f.getD i false=true:=by
   intro i U;have a3:(f.toList.filter id).length<=f.toList.length:=VI _ _;have Z:(f.toList.filter id).length=f.toList.length:=by simp at *; omega
   have:=(List.length_filter_eq_length_iff.1 Z) (f[i]) (by simp)
   simpa [Array.getD_eq_getD_getElem?,show i<f.size by omega] using this
  refine ⟨?_,hQ _ ρ a w J r h⟩;cases a1:Region.ready .any ops f with
  | nil=>rfl
  | cons x xs=>
   have hx:x∈Region.ready .any ops f:=by rw [a1]; simp
   rw [Aj] at hx;have h1:=r x hx.1;have N:=hx.2.1;have a0:x<f.size:=by omega
   simp [Array.getD_eq_getD_getElem?,a0] at h1 N;rw [h1] at N; simp at N
 | succ fuel ih=>
  intro f ρ a w t J h g;refine ⟨fun M=>hQ _ ρ a w J (Pc t hb M) h,fun i U=>?_⟩;rw [Aj] at U;obtain ⟨a2,V,o,ho,Y⟩:=U;have m:i<f.size:=by omega
  have hD:f.getD i false=false:=by
   simpa [Array.getD_eq_getD_getElem?,m] using V
  have O:ops.toList[i]?=some o:=by simpa using ho
  have l:=wA ops.toList 0 i o hA O (fun j=>f.getD j false) ρ w (by simpa using hD);rw [cP] at l;have q:=wE _ l Y h;have B:=hf o (cz O);have N:LF n o.dst=true:=by
   simp only [n6,bM] at B; exact B.1.1.2
  refine Bd ho J B q fun v w' hh=>?_;refine ih _ _ _ _ (by simpa using t) (J.put N v) (by rw [show (fun j=>(f.setIfInBounds i true).getD j false)=ao (fun j=>f.getD j false) i from funext (Vg m)]; exact hh) ?_;intro k hk;have hc:=g (k - 1);have:(f.toList.filter id).length+1<=((f.setIfInBounds i true).toList.filter id).length:=by
   have G:(f.setIfInBounds i true).toList=f.toList.set i true:=by simp
   rw [G];have hg:f.toList[i]?=some false:=by
    have:f[i]?=some false:=by
     simp [Array.getD_eq_getD_getElem?,m] at hD;simp [m,hD]
    simpa using this
   exact aux i _ hg
  by_cases a4:k=0
  ·omega
  ·have:=hc (by omega);omega
where
 aux:∀ (i:Nat) (xs:List Bool),xs[i]?=some false->(xs.filter id).length+1<=((xs.set i true).filter id).length
  | i,[],h=>by simp at h
  | 0,x::xs,h=>by simp at h; subst h; simp
  | i+1,x::xs,h=>by
   simp only [kO] at h;have:=aux i xs h;simp only [Kt,rN];split <;> simp <;> omega
end ops
end
section
open Go

def Wo (l:List Oper) (t:Nat):Prop:=∃ o∈l,o.dst=some t
def Wc:Code->Nat->Prop
 | .region _ ops _,t=>Wo ops.toList t
 | .seq a b,t|.cond _ a b,t=>Wc a t ∨ Wc b t
 | .block _ a,t|.loop a,t|.scope a,t=>Wc a t
 | _,_=>False

theorem md {t:Nat}:∀ (ops:List Oper) (l:List Nat),t∈pY ops l↔t∈l ∨ Wo ops t
 | [],l=>by simp [pY,Wo]
 | o::os,l=>by
  simp only [pY];cases hd:o.dst with
  | none=>
   rw [md os l];simp [Wo,hd]
  | some d=>
   simp only [];cases f:l.elem d with
   | true=>
    have a:d∈l:=by simpa using f
    simp only [];rw [md os l];simp only [Wo,bY,exists_eq_or_imp,hd,aY];constructor
    ·rintro (h|h)
     ·exact .inl h
     ·exact .inr (.inr h)
    ·rintro (h|h|h)
     ·exact .inl h
     ·subst h; exact .inl a
     ·exact .inr h
   | false=>
    simp only [];rw [md os (d::l)];simp only [Wo,bY,exists_eq_or_imp,hd,aY];constructor
    ·rintro ((h|h)|h)
     ·exact .inr (.inl h.symm)
     ·exact .inl h
     ·exact .inr (.inr h)
    ·rintro (h|h|h)
     ·exact .inl (.inr h)
     ·exact .inl (.inl h.symm)
     ·exact .inr h

theorem mr {t:Nat}:∀ (c:Code) (l:List Nat),t∈wr c l↔t∈l ∨ Wc c t
 | .region _ ops _,l=>md ops.toList l
 | .seq a b,l=>by simp only [wr,Wc]; rw [mr b,mr a,or_assoc]
 | .cond _ a b,l=>by simp only [wr,Wc]; rw [mr b,mr a,or_assoc]
 | .block _ a,l=>by simp only [wr,Wc]; exact mr a l
 | .loop a,l=>by simp only [wr,Wc]; exact mr a l
 | .scope a,l=>by simp only [wr,Wc]; exact mr a l
 | .skip,l|.ret,l|.exit _,l|.label _,l|.goto _,l|.refuse _,l|.rangeFunc ..,l=>by simp [wr,Wc]

def Agr (W:Nat->Prop) (ρ ρ':Env):Prop:=∀ t,¬ W t->ρ' t=ρ t
theorem Agr.refl (W:Nat->Prop) (ρ:Env):Agr W ρ ρ:=fun _ _=>rfl
theorem Agr.trans {W:Nat->Prop} {ρ f a:Env} (h:Agr W ρ f) (i:Agr W f a):Agr W ρ a:=fun t g=>(i t g).trans (h t g)
theorem Agr.mono {W W':Nat->Prop} {ρ a:Env} (h:Agr W ρ a) (f:∀ t,W t->W' t):Agr W' ρ a:=fun t g=>h t fun i=>g (f t i)
theorem Agr.put {W:Nat->Prop} (ρ:Env) (a:Option Nat) (v:Value) (h:∀ d,a=some d->W d):Agr W ρ (vr ρ a v):=by
 cases a with
 | none=>exact Agr.refl _ _
 | some d=>exact fun t f=>s7 ρ v fun e=>f (e ▸ h d rfl)

theorem fm:∀ (l:List Nat) (ρ:Env) (p:Env->Prop),lS l ρ p->∀ a,(∀ t,t ∉ l->a t=ρ t)->p a
 | [],ρ,p,h,a,e=>by have:a=ρ:=funext fun t=>e t (by simp); rw [this]; exact h
 | m::l,ρ,p,h,a,e=>by
  refine fm l (upd ρ m (a m)) p (h (a m)) a fun t g=>?_;by_cases f:t=m
  ·subst f; rw [Gp]
  ·rw [s7 _ _ f]; exact e t (by simp [f,g])
theorem kL:∀ (l:List Nat) (ρ:Env) (p:Env->Prop),(∀ a,(∀ t,t ∉ l->a t=ρ t)->p a)->lS l ρ p
 | [],ρ,p,h=>h ρ fun _ _=>rfl
 | m::l,ρ,p,h=>fun x=>kL l _ p fun a e=>h a fun t i=>by
   have g:t≠m:=fun f=>i (by rw [f]; exact aM ..);rw [e t (fun f=>i (aR _ f)),s7 _ _ g]

theorem GuardO.mono {ops:List Oper} {ρ:Env} {g:Option (Nat × Bool)} {A B A' B':Prop} (h:GuardO ops ρ g A B) (f:A->A') (a:B->B') :
  GuardO ops ρ g A' B':=by
 unfold GuardO aq at *;split
 ·exact f h
 ·rename_i j b
  simp only [] at h;split
  ·rename_i d hd
   rw [hd] at h;simp only [] at h;split
   ·rename_i c hc
    rw [hc] at h;simp only [] at h;split
    ·rename_i e; rw [ai e] at h; exact f h
    ·rename_i e; rw [ag e] at h; exact a h
   ·rename_i i
    split at h
    ·rename_i c hc; exact absurd hc (i c)
    ·exact a h
  ·rename_i hd
   rw [hd] at h;exact a h

section mono
variable {P:Program}
theorem Jy:∀ (l:List Oper) (ρ:Env) (w:World) (K K':Env->World->Prop),Tw P l ρ w K->
  (∀ a w',Agr (Wo l) ρ a->K a w'->K' a w')->Tw P l ρ w K'
 | [],ρ,w,K,K',h,hk=>hk _ _ (Agr.refl _ _) h
 | o::os,ρ,w,K,K',h,hk=>by
  refine stepE.mono h fun v w' g=>Jy os _ w' K K' g fun a f i=>hk a f ?_;exact (Agr.put ρ o.dst v fun d hd=>⟨o,aM ..,hd⟩).trans
   (i.mono fun t ⟨m,q,r⟩=>⟨m,aR _ q,r⟩)
theorem JE:∀ (l:List Oper) (ρ:Env),Agr (Wo l) ρ (Oc l ρ)
 | [],_=>Agr.refl _ _
 | o::os,ρ=>(Agr.put ρ o.dst undef fun _ hd=>⟨o,aM ..,hd⟩).trans
   ((JE os _).mono fun _ ⟨a,f,g⟩=>⟨a,aR _ f,g⟩)

theorem PY {all:List Oper}:∀ (m:Nat) (l:List Oper) (ρ:Env) (w:World) (K K':Env->World->Prop),CJ P all m l ρ w K->
  (∀ q w',Agr (Wo l) ρ q->K q w'->K' q w')->CJ P all m l ρ w K':=by
 intro m;induction m with
 | zero=>intro l ρ w K K' h; exact h.elim
 | succ m J=>
  intro l ρ w K K' h hk;cases l with
  | nil=>exact hk _ _ (Agr.refl _ _) h
  | cons o os=>
   simp only [CJ] at h J ⊢;cases Y:o.guard with
   | none=>
    rw [Y] at h;simp only [] at h ⊢;refine stepE.mono h fun v w' r=>J os _ w' K K' r fun q a M=>hk q a ?_;exact (Agr.put ρ o.dst v fun d hd=>⟨o,aM ..,hd⟩).trans
     (M.mono fun t ⟨B,D,G⟩=>⟨B,aR _ D,G⟩)
   | some g=>
    rw [Y] at h;simp only [] at h ⊢;have O:=Af (some g) os;have U:∀ t,Wo (o::grp (some g) os) t->Wo (o::os) t:=fun t ⟨B,D,G⟩=>⟨B,by
     rw [O,<- dS]; exact cZ _ D,G⟩
    have V:∀ t,Wo (nP (some g) os) t->Wo (o::os) t:=fun t ⟨B,D,G⟩=>⟨B,by
     rw [O,<- dS]; exact fb _ D,G⟩
    refine GuardO.mono h (fun r=>?_) (fun r=>?_)
    ·refine Jy _ _ _ _ _ r fun q w' M N=>J _ _ _ K K' N fun f a i=>hk f a ?_;exact (M.mono U).trans (i.mono V)
    ·refine J _ _ _ K K' r fun f a i=>hk f a ?_;exact ((JE _ _).mono U).trans (i.mono V)

theorem xk:∀ (l:List Edge) {D:Nat->Bool} {p q:Prop},vF l D p->(p->q)->vF l D q
 | [],_,_,_,h,hq=>hq h
 | e::es,D,p,q,h,hq=>by
  simp only [vF] at h ⊢;cases a:Region.binds .any e with
  | false=>rw [a] at h; exact xk es h hq
  | true=>rw [a] at h; exact fun hd=>xk es (h hd) hq
theorem yv {D:Nat->Bool} {p q:Prop}:∀ n:Nat,zS n D p->(p->q)->zS n D q
 | 0,h,hq=>hq h
 | n+1,h,hq=>fun hd=>yv n (h hd) hq
theorem VO {all:List Oper} {o:Oper} {ρ:Env} {w:World} {K K':Env->World->Prop} (h:opE P all o ρ w K)
  (hk:∀ v w',K (vr ρ o.dst v) w'->K' (vr ρ o.dst v) w'):opE P all o ρ w K':=
 GuardO.mono h (fun a=>stepE.mono a fun v w'=>hk v w') (hk _ _)
theorem L4:∀ (l:List Nat) (ρ:Env) {p q:Env->Prop},lS l ρ p->(∀ a,(∀ t,t ∉ l->a t=ρ t)->p a->q a)->lS l ρ q:=
 fun l ρ p _ h f=>kL l ρ _ fun a e=>f a e (fm l ρ p h a e)
theorem N9 {ops:List Oper} {ρ:Env} {w:World} {K K':Env->World->Prop} (h:Qr P ops ρ w K)
  (hk:∀ a w',Agr (Wo ops) ρ a->K a w'->K' a w'):Qr P ops ρ w K':=by
 obtain ⟨A,q,r,B⟩:=h;refine ⟨A,q,r,fun D=>?_⟩;refine yv _ (B D) fun g=>L4 _ _ g fun a f i w' l=>hk a w' (fun t m=>f t fun o=>m ?_) (i w' l);exact ((md ops []).1 o).resolve_left (by simp)
theorem vR {all:List Oper} {M:List Nat} {A:(Nat->Bool)->Cur (World->Prop) M} {ρ:Env} (q:∀ t,Wo all t->t∈M):∀ (l:List Oper) (i:Nat),(∀ t,Wo l t->Wo all t)->
  Bt P all M A ρ i l->Rs P all (fun D a w'=>ap M (A D) a w'/\Agr (Wo all) ρ a) i l
 | [],_,_,_=>trivial
 | o::os,i,hw,h=>by
  refine ⟨fun D a w' r=>?_,vR q os (i+1) (fun t ⟨B,f,G⟩=>hw t ⟨B,aR _ f,G⟩) h.2⟩;refine xk _ (h.1 D r) fun J g=>?_;have f:=fm _ _ _ J a (fun t N=>g.2 t fun m=>N (q t m)) w' g.1;exact VO f fun v O U=>⟨U,g.2.trans (Agr.put a o.dst v fun d hd=>hw d ⟨o,aM ..,hd⟩)⟩

theorem CondV.mono {v:Value} {A B A' B':Prop} (h:CondV v A B) (a:A->A') (f:B->B'):CondV v A' B':=by
 unfold CondV at *;split
 ·rename_i c
  simp only [] at h;split
  ·rename_i e; rw [ai e] at h; exact a h
  ·rename_i e; rw [ag e] at h; exact f h
 ·rename_i g
  split at h
  ·rename_i c; exact absurd rfl (g c)
  ·exact h

theorem li {K K':Env->World->Prop} {Q Q':Exit->Env->World->Prop} {ρ:Env} {w:World} (hk:K ρ w->K' ρ w)
  (a:∀ e,Q e ρ w->Q' e ρ w):∀ e,Cr K Q e ρ w->Cr K' Q' e ρ w:=by
 intro e;cases e <;> first|exact hk|exact a _

theorem kA:∀ (c:Code) (l:An) (Q Q':Exit->Env->World->Prop) (ρ:Env) (w:World),vc P c l Q ρ w->
  (∀ e f w',Agr (Wc c) ρ f->Q e f w'->Q' e f w')->vc P c l Q' ρ w
 | .skip,l,Q,Q',ρ,w,h,hq=>hq _ _ _ (Agr.refl _ _) h
 | .ret,l,Q,Q',ρ,w,h,hq=>hq _ _ _ (Agr.refl _ _) h
 | .exit id,l,Q,Q',ρ,w,h,hq=>hq _ _ _ (Agr.refl _ _) h
 | .region id ops draw,l,Q,Q',ρ,w,h,hq=>by
  simp only [vc] at h ⊢;cases draw with
  | true=>exact N9 h fun f w' g=>hq _ f w' g
  | false=>exact PY _ _ _ _ _ _ (by simpa only [cond_false] using h) fun f w' g=>hq _ f w' g
 | .seq a b,l,Q,Q',ρ,w,h,hq=>by
  simp only [vc] at h ⊢;cases hc:l.cut with
  | none=>
   rw [hc] at h;simp only [] at h ⊢;refine kA a _ _ _ ρ w h fun e f w' g=>?_;refine li (fun i=>?_) (fun B i=>hq B f w' (g.mono fun t=>.inl) i) e;exact kA b _ _ _ f w' i fun B m o q=>hq B m o ((g.mono fun t=>.inl).trans (q.mono fun t=>.inr))
  | some Z=>
   rw [hc] at h;simp only [] at h ⊢;obtain ⟨J,M,N⟩:=h;refine ⟨J,?_,?_⟩
   ·refine kA a _ _ _ ρ w M fun e f w' g=>?_;exact li id (fun B i=>hq B f w' (g.mono fun t=>.inl) i) e
   ·refine kL _ _ _ fun f r w' U=>?_;have g:Agr (Wc a) ρ f:=fun t D=>r t fun G=>D (((mr a []).1 G).resolve_left (by simp));exact kA b _ _ _ f w' (fm _ _ _ N f r w' U) fun B m o q=>
     hq B m o ((g.mono fun t=>.inl).trans (q.mono fun t=>.inr))
 | .cond x a b,l,Q,Q',ρ,w,h,hq=>by
  simp only [vc] at h ⊢;exact CondV.mono h (fun i=>kA a _ _ _ ρ w i fun e f w' g=>hq e f w' (g.mono fun t=>.inl))
   (fun i=>kA b _ _ _ ρ w i fun e f w' g=>hq e f w' (g.mono fun t=>.inr))
 | .block id a,l,Q,Q',ρ,w,h,hq=>by
  simp only [vc] at h ⊢;refine kA a _ _ _ ρ w h fun e f w' g i=>?_;cases e with
  | exit O=>
   simp only [QZ] at i ⊢;cases Y:Nat.beq O id <;> rw [Y] at i <;> exact hq _ f w' g i
  | _=>exact hq _ f w' g i
 | .loop a,l,Q,Q',ρ,w,h,hq=>by
  simp only [vc] at h ⊢;obtain ⟨I,μ,M,N⟩:=h;refine ⟨I,μ,M,kL _ _ _ fun f r w' V=>?_⟩;have g:Agr (Wc a) ρ f:=fun t D=>r t fun G=>D (((mr a []).1 G).resolve_left (by simp));refine kA a _ _ _ f w' (fm _ _ _ N f r w' V) fun e m o q=>?_;exact li id (fun B i=>hq B m o (g.trans q) i) e
 | .scope ..,_,_,_,_,_,h,_|.label ..,_,_,_,_,_,h,_|.goto ..,_,_,_,_,_,h,_|.refuse ..,_,_,_,_,_,h,_
 | .rangeFunc ..,_,_,_,_,_,h,_=>h.elim
end mono

def I7 (a:Act):Env:=fun t=>a.tmps.getD t undef
theorem Rel.env {n:Nat} {ρ:Env} {a:Act} (h:Rel n ρ a):ρ=I7 a:=by
 funext t
 by_cases f:t<n
 ·simp [I7,Array.getD_eq_getD_getElem?,h.at_ t f]
 ·rw [h.out t (by omega)];simp [I7,Array.getD_eq_getD_getElem?,h.size,show ¬ t<n from f]

section sound
variable {P:Program} {n:Nat}
def post (n:Nat) (Q:Exit->Env->World->Prop):Exit->Act->World->Prop:=fun e a w=>∃ ρ,Rel n ρ a/\Q e ρ w

theorem Bp {K:Env->World->Prop} {Q:Exit->Env->World->Prop} {next:Act->World->Prop} {Q':Exit->Act->World->Prop} {a:Act} {w:World}
  (hk:∀ ρ,Rel n ρ a->K ρ w->next a w) (g:∀ e ρ,Rel n ρ a->Q e ρ w->Q' e a w):∀ e,post n (Cr K Q) e a w->Exit.then next Q' e a w:=by
 rintro e ⟨ρ,f,h⟩;cases e <;> first|exact hk ρ f h|exact g _ ρ f h

theorem jk (G:P.follows .mixedOrders=true):∀ (c:Code) (q:An) (Q:Exit->Env->World->Prop) (ρ:Env) (w:World) (a:Act),Rel n ρ a->
  Aq n c=true->vc P c q Q ρ w->c.wp P (post n Q) a w
 | .skip,q,Q,ρ,w,a,hr,_,h=>wp_skip ⟨ρ,hr,h⟩
 | .ret,q,Q,ρ,w,a,hr,_,h=>wp_ret ⟨ρ,hr,h⟩
 | .exit id,q,Q,ρ,w,a,hr,_,h=>wp_exit ⟨ρ,hr,h⟩
 | .region id ops draw,q,Q,ρ,w,a,hr,hf,h=>by
  simp only [Aq,bM,jc,o6] at hf;obtain ⟨⟨a1,a2⟩,a3⟩:=hf;have a0:Ei n ops:=fun o ho=>dD.1 a1 o ho;simp only [vc] at h;cases draw with
  | true=>
   obtain ⟨A,Y,Z,h3⟩:=h;have hb:EA 0 ops.toList=true:=by simpa using a3
   refine wp_region_any G ?_;have hW:∀ t,Wo ops.toList t->t∈pY ops.toList []:=fun t M=>(md _ _).2 (.inr M);refine Pr a0 hb (vR hW _ 0 (fun _ h=>h) Z) ?_ _ _ ρ a _ (by simp) hr ?_ ?_
   ·intro D g B w' f hD hA;have h4:=xT _ (h3 D) (fun i hi=>hD i (by simpa using hi));exact ⟨g,f,fm _ _ _ h4 g (fun t M=>hA.2 t fun V=>M (hW t V)) w' hA.1⟩
   ·have:(fun j=>(Array.replicate ops.size false).getD j false)=fun _=>false:=by
     funext j
     simp only [Array.getD_eq_getD_getElem?,Array.getElem?_replicate];split <;> rfl
    rw [this]; exact ⟨Y,Agr.refl _ _⟩
   ·intro k hk; omega
  | false=>
   refine wp_region ?_;have:=NC (Q:=post n Q) a0 a2 _ ops.toList 0 ρ a w _ (Qa _) rfl hr h fun g B w' f l=>⟨g,f,l⟩
   simpa [List.range_eq_range'] using this
 | .seq x y,q,Q,ρ,w,a,hr,hf,h=>by
  simp only [Aq,bM] at hf;simp only [vc] at h;cases hc:q.cut with
  | none=>
   rw [hc] at h;simp only [] at h;refine wp_seq (wp_mono (jk G x _ _ ρ w a hr hf.1 h) fun e B w'=>?_);exact Bp (fun g f l=>jk G y _ _ g w' B f hf.2 l) (fun e' g f l=>⟨g,f,l⟩) e
  | some lv=>
   rw [hc] at h;simp only [] at h;obtain ⟨J,Y,Z⟩:=h;have a4:=kA x _ _ (Cr (fun g w'=>ap lv J g w'/\Agr (Wc x) ρ g) Q) ρ w Y fun e g w' ha=>
    li (fun l=>⟨l,ha⟩) (fun _=>id) e
   refine wp_seq (wp_mono (jk G x _ _ ρ w a hr hf.1 a4) fun e B w'=>?_);refine Bp (fun g f l=>?_) (fun e' g f l=>⟨g,f,l⟩) e;refine jk G y _ _ g w' B f hf.2 (fm _ _ _ Z g (fun t M=>l.2 t fun V=>M ?_) w' l.1);exact (mr x []).2 (.inr V)
 | .cond x c d,q,Q,ρ,w,a,hr,hf,h=>by
  simp only [Aq,bM] at hf;simp only [vc] at h;have he:=hr.eval hf.1.1;unfold CondV at h;split at h
  ·rename_i t M
   rw [M] at he;refine wp_cond he ?_;split at h
   ·rename_i e; rw [ai e]; exact jk G c _ _ ρ w a hr hf.1.2 h
   ·rename_i e; rw [ag e]; exact jk G d _ _ ρ w a hr hf.2 h
  ·exact h.elim
 | .block id c,q,Q,ρ,w,a,hr,hf,h=>by
  simp only [Aq] at hf;simp only [vc] at h;refine wp_block (wp_mono (jk G c _ _ ρ w a hr hf h) fun e B w'=>?_);rintro ⟨g,f,l⟩;cases e with
  | exit O=>
   simp only [QZ] at l;simp only [Exit.inBlock];by_cases e:O=id
   ·have:Nat.beq O id=true:=by simpa using e
    rw [this] at l;rw [ai e]; exact ⟨g,f,l⟩
   ·have:Nat.beq O id=false:=by simpa [<- Bool.not_eq_true] using e
    rw [this] at l;rw [ag e]; exact ⟨g,f,l⟩
  | _=>exact ⟨g,f,l⟩
 | .loop c,q,Q,ρ,w,a,hr,hf,h=>by
  simp only [Aq] at hf;simp only [vc] at h;obtain ⟨I,μ,Y,Z⟩:=h;refine wp_loop (fun B w'=>∃ g,Rel n g B/\Agr (Wc c) ρ g/\ap q.live I g w') (fun B w'=>ap q.live μ (I7 B) w')
   ⟨ρ,hr,Agr.refl _ _,Y⟩ ?_
  rintro B w' ⟨g,f,U,hI⟩;have a5:=fm _ _ _ Z g (fun t M=>U t fun V=>M ((mr c []).2 (.inr V))) w' hI;have h3:=kA c _ _ (Cr (fun m N=>(ap q.live I m N/\ap q.live μ m N<ap q.live μ g w')/\Agr (Wc c) g m) Q) g w' a5
   fun e m N ha=>li (fun l=>⟨l,ha⟩) (fun _=>id) e
  refine wp_mono (jk G c _ _ g w' B f hf h3) fun e a6 N=>?_;refine Bp (fun m r l=>⟨⟨m,r,U.trans l.2,l.1.1⟩,?_⟩) (fun e' m r l=>⟨m,r,l⟩) e;rw [<- r.env,<- f.env];exact l.1.2
 | .scope ..,_,_,_,_,_,_,_,h|.label ..,_,_,_,_,_,_,_,h|.goto ..,_,_,_,_,_,_,_,h|.refuse ..,_,_,_,_,_,_,_,h
 | .rangeFunc ..,_,_,_,_,_,_,_,h=>h.elim
end sound

def aK (P:Program) (T:TypeId) (p:Value) (w:World) (K:Value->Prop):Prop:=
 ∃ v,(do loadVar T (<- asAddr p):Sem Value).run P w=.ok v w/\K v
def Xn (P:Program):List ResultVar->Env->World->(List Value->Prop)->Prop
 | [],_,_,K=>K []
 | .tmp t::rs,ρ,w,K=>Xn P rs ρ w fun vs=>K (ρ t::vs)
 | .cell t T::rs,ρ,w,K=>aK P T (ρ t) w fun v=>Xn P rs ρ w fun vs=>K (v::vs)
def Xu:List Value->Value
 | [v]=>v
 | vs=>.tuple vs.toArray
def ZC (P:Program) (rs:List ResultVar) (ρ:Env) (w:World) (R:Ending->World->Prop):Prop:=
 Xn P rs ρ w fun vs=>R (.returned (Xu vs)) w
def Oa (P:Program) (rs:List ResultVar) (R:Ending->World->Prop):Exit->Env->World->Prop
 | .normal,ρ,w|.ret,ρ,w=>ZC P rs ρ w R
 | _,_,_=>False

def Xo (tmps:Array Value):ResultVar->Sem Value
 | .tmp t=>pure (tmps.getD t undef)
 | .cell t T=>do loadVar T (<- asAddr (tmps.getD t undef))
theorem Qg (fn:Func) (tmps:Array Value):results fn tmps=(do
  let vs <- fn.results.mapM (Xo tmps)
  pure (if h:vs.size=1 then vs[0] else .tuple vs)):=by
 unfold results
 congr 2
theorem Ej {P:Program} {a:Act} {w:World}:∀ (f:List ResultVar) (K:List Value->Prop),Xn P f (I7 a) w K->
  ∃ vs,(f.mapM (Xo a.tmps)).run P w=.ok vs w/\vs.length=f.length/\K vs
 | [],K,h=>⟨[],by simp,rfl,h⟩
 | .tmp t::f,K,h=>by
  obtain ⟨vs,g,i,l⟩:=Ej f _ h;refine ⟨_::vs,?_,by simp [i],l⟩;rw [List.mapM_cons];simp only [Sem.run_bind,Xo,Sem.run_pure,Result.andThen_ok,g];rfl
 | .cell t T::f,K,h=>by
  obtain ⟨v,o,h⟩:=h;obtain ⟨vs,g,i,l⟩:=Ej f _ h;refine ⟨v::vs,?_,by simp [i],l⟩;rw [List.mapM_cons];have m:(Xo a.tmps (.cell t T)).run P w=.ok v w:=o;simp only [Sem.run_bind,m,Result.andThen_ok,g,Sem.run_pure]

theorem Cx {P:Program} {fn:Func} {a:Act} {w:World} {R:Ending->World->Prop}
  (h:ZC P fn.results.toList (I7 a) w R):∃ v,(results fn a.tmps).run P w=.ok v w/\R (.returned v) w:=by
 obtain ⟨vs,f,i,g⟩:=Ej fn.results.toList _ h;refine ⟨_,?_,g⟩;rw [Qg,Array.mapM_eq_mapM_toList];simp only [Sem.run_bind,Sem.run_map,f,Result.andThen_ok,Sem.run_pure]
 congr 1
 match vs with
 | []=>simp [Xu]
 | [v]=>simp [Xu]
 | v::u::r=>simp [Xu]

def o7:Nat->List Value->Env->Env
 | _,[],ρ=>ρ
 | k,v::vs,ρ=>o7 (k+1) vs (upd ρ k v)
theorem FK:∀ (l:List Value) (k:Nat) (ρ:Env) (t:Nat),o7 k l ρ t=if k<=t/\t<k+l.length then (l[t - k]?).getD undef else ρ t
 | [],k,ρ,t=>by simp [o7]; intro a f; omega
 | v::vs,k,ρ,t=>by
  rw [o7,FK vs (k+1) _ t];by_cases h:t=k
  ·subst h;rw [ag (by omega),ai (by simp),Gp];simp
  ·rw [s7 _ _ h];by_cases a:k+1<=t/\t<k+1+vs.length
   ·rw [ai a,ai (by simp; omega)];rw [show t - k=(t - (k+1))+1 by omega,kO]
   ·rw [ag a,ag (by simp; omega)]

theorem NQ {P:Program} {f:FuncId} {fn:Func} {c:Code} {n:Nat} (o:An) {args:List Value} {w:World} {R:Ending->World->Prop}
  (q:P.follows .mixedOrders=true) (hf:P.funcs[f]?=some fn) (r:fn.body=some c) (hn:fn.ntmps=n) (hl:Nat.ble args.length n=true)
  (g:Aq n c=true) (h:vc P c o (Oa P fn.results.toList R) (o7 0 args fun _=>undef) w):Calls P f args.toArray w R:=by
 have D:args.length<=n:=mL hl;refine calls_of_wp hf r ?_;have G:Rel n (o7 0 args fun _=>undef) { tmps:=args.toArray++Array.replicate (fn.ntmps - args.toArray.size) undef,defers:=[] }:=by
  refine ⟨by simp; omega,fun t B=>?_,fun t B=>?_,rfl⟩
  ·rw [FK];by_cases i:t<args.length
   ·rw [ai (by omega)];simp [Array.getElem?_append,i]
   ·rw [ag (by omega)];rw [Array.getElem?_append_right (by simp; omega),Array.getElem?_replicate,ai (by simp; omega)]
  ·rw [FK,ag (by omega)]
 refine wp_mono (jk q c o _ _ w _ G g h) fun e M w'=>?_;rintro ⟨J,a,l⟩;rw [a.env] at l;cases e with
 | normal=>
  obtain ⟨v,i,m⟩:=Cx l;exact ⟨a.defers,v,i,m⟩
 | ret=>
  obtain ⟨v,i,m⟩:=Cx l;exact ⟨a.defers,v,i,m⟩
 | _=>exact l.elim

def ov (fn:Func):Code:=fn.body.getD .skip
def ready (fn:Func) (k:Nat):Bool:=fn.body.isSome && Nat.ble k fn.ntmps && Aq fn.ntmps (ov fn)
theorem oU {P:Program} {f:FuncId} {fn:Func} (a:An) (args:List Value) {w:World} {R:Ending->World->Prop} {p:Prop}
  (l:P.follows .mixedOrders=true) (hf:P.funcs[f]?=some fn) (g:ready fn args.length=true)
  (h:p=vc P (ov fn) a (Oa P fn.results.toList R) (o7 0 args fun _=>undef) w) (m:p):Calls P f args.toArray w R:=by
 simp only [ready,bM] at g;obtain ⟨⟨i,o⟩,q⟩:=g;refine NQ a l hf (c:=ov fn) ?_ rfl o q (h ▸ m);unfold ov;cases r:fn.body with
 | none=>rw [r] at i; cases i
 | some c=>rfl
end
section
open Go Go.RowKit

abbrev ae:=Nat->Option Obj
def Sle (S S':ae):Prop:=∀ b o,S b=some o->S' b=some o
theorem Sle.refl (S:ae):Sle S S:=fun _ _ h=>h
theorem Sle.trans {S S' S'':ae} (h:Sle S S') (a:Sle S' S''):Sle S S'':=fun b o f=>a b o (h b o f)

inductive Item where
 | blk (b:Nat) (o:Obj)
 | row (v:Value) (e:TypeId) (size n:Nat) (xs:List Value)
def Item.foot:Item->List Nat
 | .blk b _=>[b]
 | .row v ..=>v.ownBlock.toList
def Item.holds (w:World):Item->Prop
 | .blk b o=>w.heap[b]?=some o
 | .row v e size n xs=>w.ownsRow 0 e size v n xs
def bP (L:List Item):List Nat:=L.flatMap Item.foot

theorem Item.lt {w:World}:∀ {it:Item},it.holds w->∀ b∈it.foot,b<w.heap.size
 | .blk b o,h,c,hc=>by
  simp only [Item.foot,bK] at hc;subst hc;exact (Xl.1 h).1
 | .row v e size n xs,h,c,hc=>by
  simp only [Item.foot,Option.mem_toList] at hc;exact (World.ownsRow.lt h c hc).2
theorem Item.kept {w w':World}:∀ {it:Item},it.holds w->w.heap.size<=w'.heap.size->w'.os=w.os->w'.tape=w.tape->w'.output=w.output->
  (∀ b∈it.foot,w'.heap[b]?=w.heap[b]?)->it.holds w'
 | .blk b o,h,_,_,_,_,hk=>(hk b (by simp [Item.foot])).trans h
 | .row v e size n xs,h,_,_,_,_,hk=>by
  refine ⟨h.1,?_⟩;rcases h.2 with hn|⟨g,cap,a,rfl,i,f,rest⟩
  ·exact .inl hn
  ·exact .inr ⟨g,cap,a,rfl,i,(hk g (by simp [Item.foot,Value.ownBlock])).trans f,rest⟩

structure Inv (w0:World) (X:List Nat) (L:List Item) (S:ae) (w:World):Prop where
 size:w0.heap.size<=w.heap.size
 os:w.os=w0.os
 tape:w.tape=w0.tape
 output:w.output=w0.output
 old:∀ b,b<w0.heap.size->b ∉ X->w.heap[b]?=w0.heap[b]?
 its:∀ it∈L,it.holds w
 nd:(bP L).Nodup
 new:∀ b∈bP L,b∈X ∨ w0.heap.size<=b
 pub:∀ b o,S b=some o->w.heap[b]?=some o/\b ∉ bP L

theorem oL {L:List Item} {b:Nat}:b∈bP L↔∃ it∈L,b∈it.foot:=by simp [bP,List.mem_flatMap]
theorem bZ (L M:List Item):bP (L++M)=bP L++bP M:=by simp [bP]
theorem Inv.lt {w0 w:World} {X:List Nat} {L:List Item} {S:ae} (h:Inv w0 X L S w) {b:Nat} (a:b∈bP L):b<w.heap.size:=by
 obtain ⟨it,f,a⟩:=oL.1 a;exact Item.lt (h.its it f) b a
theorem Inv.publt {w0 w:World} {X:List Nat} {L:List Item} {S:ae} (h:Inv w0 X L S w) {b:Nat} {o:Obj} (a:S b=some o):b<w.heap.size:=
 (Xl.1 (h.pub b o a).1).1

theorem Inv.start {w:World} {L:List Item} {S:ae} (a:∀ it∈L,it.holds w) (hn:(bP L).Nodup) (f:∀ b o,S b=some o->w.heap[b]?=some o/\b ∉ bP L) :
  Inv w (bP L) L S w:=
 ⟨aS _,rfl,rfl,rfl,fun _ _ _=>rfl,a,hn,fun _ h=>.inl h,f⟩
theorem Inv.begin {w0 w:World} {X:List Nat} {L:List Item} {S:ae} (h:Inv w0 X L S w):Inv w (bP L) L S w:=Inv.start h.its h.nd h.pub

theorem TT {L M:List Item} (g:List.Sublist M L):List.Sublist (bP M) (bP L):=by
 induction g with
 | slnil=>exact List.Sublist.refl _
 | cons a _ f=>simp only [bP,rQ] at *; exact f.trans (dH _ _)
 | cons_cons a _ f=>simp only [bP,rQ] at *; exact List.Sublist.append_left f _
theorem Tg {L M:List Item} (a:List.Sublist M L) (h:(bP L).Nodup):(bP M).Nodup:=List.Nodup.sublist (TT a) h
theorem Inv.sub {w0 w:World} {X:List Nat} {L M:List Item} {S:ae} (h:Inv w0 X L S w) (f:List.Sublist M L):Inv w0 X M S w:=
 have i:∀ b,b∈bP M->b∈bP L:=fun b a=>by
  obtain ⟨it,m,q⟩:=oL.1 a;exact oL.2 ⟨it,f.subset m,q⟩
 ⟨h.size,h.os,h.tape,h.output,h.old,fun it l=>h.its it (f.subset l),Tg f h.nd,fun b a=>h.new b (i b a),
  fun b o a=>⟨(h.pub b o a).1,fun g=>(h.pub b o a).2 (i b g)⟩⟩
theorem Inv.nil {w0 w:World} {X:List Nat} {L:List Item} {S:ae} (h:Inv w0 X L S w):Inv w0 X [] S w:=h.sub (K0 _)
def xG:List Bool->List Item->List Item
 | true::bs,x::xs=>x::xG bs xs
 | false::bs,_::xs=>xG bs xs
 | _,_=>[]
theorem AR:∀ (bs:List Bool) (L:List Item),List.Sublist (xG bs L) L
 | true::bs,x::xs=>by simp only [xG]; exact (AR bs xs).cons_cons x
 | false::bs,x::xs=>by simp only [xG]; exact (AR bs xs).cons x
 | [],L=>by simp [xG]
 | true::_,[]=>by simp [xG]
 | false::_,[]=>by simp [xG]
theorem Inv.pick {w0 w:World} {X:List Nat} {L:List Item} {S:ae} (h:Inv w0 X L S w) (bs:List Bool):Inv w0 X (xG bs L) S w:=h.sub (AR bs L)
theorem Inv.less {w0 w:World} {X:List Nat} {L:List Item} {S S':ae} (h:Inv w0 X L S w) (a:Sle S' S):Inv w0 X L S' w:=
 { h with pub:=fun b o f=>h.pub b o (a b o f) }
theorem Inv.perm {w0 w:World} {X:List Nat} {L M:List Item} {S:ae} (h:Inv w0 X L S w) (g:List.Perm M L):Inv w0 X M S w:=by
 have hf:List.Perm (bP M) (bP L):=g.flatMap_right _;exact ⟨h.size,h.os,h.tape,h.output,h.old,fun it i=>h.its it (g.mem_iff.1 i),hf.symm.nodup h.nd,fun b a=>h.new b (hf.mem_iff.1 a),
  fun b o a=>⟨(h.pub b o a).1,fun f=>(h.pub b o a).2 (hf.mem_iff.1 f)⟩⟩

theorem Inv.step {w0 w w':World} {X:List Nat} {A B:List Item} {S S':ae} (h:Inv w0 X (A++B) S w) {B':List Item} (hc:Inv w (bP B) B' S' w')
  (M:∀ b o,S' b=some o->S b=some o ∨ b∈bP B ∨ w.heap.size<=b):Inv w0 X (A++B') S' w':=by
 have D:=h.nd;rw [bZ,oB] at D;obtain ⟨N,U,m⟩:=D;have q:∀ b∈bP A,w'.heap[b]?=w.heap[b]?:=fun b f=>
  hc.old b (h.lt (by rw [bZ]; exact cZ _ f)) fun l=>m b f b l rfl
 refine ⟨gz h.size hc.size,hc.os.trans h.os,hc.tape.trans h.tape,hc.output.trans h.output,fun b f t=>?_,fun it r=>?_,?_,fun b f=>?_,fun b o f=>?_⟩
 ·have G:b ∉ bP B:=fun l=>by
   rcases h.new b (by rw [bZ]; exact fb _ l) with g|g
   ·exact t g
   ·omega
  rw [hc.old b (Nat.lt_of_lt_of_le f h.size) G];exact h.old b f t
 ·rcases bF.1 r with r|r
  ·exact Item.kept (h.its it (cZ _ r)) hc.size hc.os hc.tape hc.output fun b f=>q b (oL.2 ⟨it,r,f⟩)
  ·exact hc.its it r
 ·rw [bZ,oB];refine ⟨N,hc.nd,fun a J b f e=>?_⟩;subst e;have O:=h.lt (b:=a) (by rw [bZ]; exact cZ _ J);rcases hc.new a f with g|g
  ·exact m a J a g rfl
  ·omega
 ·rw [bZ] at f;rcases bF.1 f with f|f
  ·exact h.new b (by rw [bZ]; exact cZ _ f)
  ·rcases hc.new b f with g|g
   ·exact h.new b (by rw [bZ]; exact fb _ g)
   ·exact .inr (gz h.size g)
 ·refine ⟨(hc.pub b o f).1,fun i=>?_⟩;rw [bZ] at i;rcases bF.1 i with i|i
  ·rcases M b o f with g|g|g
   ·exact (h.pub b o g).2 (by rw [bZ]; exact cZ _ i)
   ·exact m b i b g rfl
   ·have:=h.lt (b:=b) (by rw [bZ]; exact cZ _ i);omega
  ·exact (hc.pub b o f).2 i

structure Grow (w w':World):Prop where
 size:w.heap.size<=w'.heap.size
 os:w'.os=w.os
 tape:w'.tape=w.tape
 output:w'.output=w.output
 old:∀ b,b<w.heap.size->w'.heap[b]?=w.heap[b]?
theorem Grow.refl (w:World):Grow w w:=⟨aS _,rfl,rfl,rfl,fun _ _=>rfl⟩
theorem Inv.grow {w0 w w':World} {X:List Nat} {L:List Item} {S:ae} (h:Inv w0 X L S w) (a:Grow w w'):Inv w0 X L S w':=by
 have:Inv w (bP []) [] S w':=⟨a.size,a.os,a.tape,a.output,fun b f _=>a.old b f,by simp,by simp [bP],by simp [bP],
  fun b o f=>⟨(a.old b (h.publt f)).trans (h.pub b o f).1,by simp [bP]⟩⟩
 have g:=Inv.step (A:=L) (B:=[]) (by simpa using h) this (fun b o f=>.inl f);simpa using g
theorem Inv.addItem {w0 w w':World} {X:List Nat} {L:List Item} {S:ae} (h:Inv w0 X L S w) (g:Grow w w') {it:Item} (i:it.holds w')
  (hf:∀ b∈it.foot,w.heap.size<=b) (hn:it.foot.Nodup):Inv w0 X (L++[it]) S w':=by
 have f:bP [it]=it.foot:=by simp [bP]
 have:Inv w (bP []) [it] S w':=⟨g.size,g.os,g.tape,g.output,fun b a _=>g.old b a,by simpa using i,by rw [f]; exact hn,
  fun b a=>.inr (hf b (by rwa [f] at a)),fun b o a=>⟨(g.old b (h.publt a)).trans (h.pub b o a).1,fun l=>by
   have:=h.publt a;have:=hf b (by rwa [f] at l);omega⟩⟩
 exact Inv.step (A:=L) (B:=[]) (by simpa using h) this (fun b o a=>.inl a)
theorem Inv.alloc {w0 w:World} {X:List Nat} {L:List Item} {S:ae} (h:Inv w0 X L S w) (o:Obj) :
  Inv w0 X (L++[.blk w.heap.size o]) S { w with heap:=w.heap.push o }:=
 h.addItem (w':={ w with heap:=w.heap.push o }) (it:=.blk w.heap.size o) ⟨by simp,rfl,rfl,rfl,fun b a=>by simp [Array.getElem?_push,Nat.ne_of_lt a]⟩ (by simp [Item.holds]) (by simp [Item.foot]) (by simp [Item.foot])
theorem Inv.draw {w0 w:World} {X:List Nat} {L:List Item} {S:ae} (h:Inv w0 X L S w):Inv w0 X L S { w with drawn:=w.drawn+1 }:=
 h.grow ⟨aS _,rfl,rfl,rfl,fun _ _=>rfl⟩

theorem AP {L:List Item} {i:Nat} {it:Item} (f:L[i]?=some it) (it':Item) :
  L=L.take i++it::L.drop (i+1)/\L.set i it'=L.take i++it'::L.drop (i+1):=by
 have a:i<L.length:=(fa.1 f).1;have g:L[i]=it:=(fa.1 f).2;constructor
 ·conv=>lhs; rw [<- GA i L,dY a,g]
 ·rw [FG,ai a]
theorem Inv.stepAt {w0 w w':World} {X:List Nat} {L:List Item} {S S':ae} (h:Inv w0 X L S w) {i:Nat} {it it':Item} (a:L[i]?=some it)
  {B:List Item} (hc:Inv w (bP [it]) (it'::B) S' w')
  (f:∀ b o,S' b=some o->S b=some o ∨ b∈bP [it] ∨ w.heap.size<=b):Inv w0 X (L.set i it'++B) S' w':=by
 obtain ⟨g,l⟩:=AP a it';have m:List.Perm ((L.take i++L.drop (i+1))++[it]) L:=by
  conv=>rhs; rw [g]
  rw [dx];exact zL _ cj
 have q:List.Perm (L.set i it'++B) ((L.take i++L.drop (i+1))++(it'::B)):=by
  rw [l,dx,dx];refine zL _ ?_;rw [dS];exact zal132.symm
 exact (Inv.step (h.perm m) hc f).perm q
theorem Inv.change {w0 w w':World} {X:List Nat} {L:List Item} {S:ae} (h:Inv w0 X L S w) {i:Nat} {it it':Item} (D:L[i]?=some it)
  (m:w.heap.size<=w'.heap.size) (q:w'.os=w.os) (r:w'.tape=w.tape) (t:w'.output=w.output)
  (g:∀ b,b<w.heap.size->b ∉ it.foot->w'.heap[b]?=w.heap[b]?) (J:it'.holds w') (hf:∀ b∈it'.foot,b∈it.foot ∨ w.heap.size<=b) (hn:it'.foot.Nodup) :
  Inv w0 X (L.set i it') S w':=by
 have e1:bP [it]=it.foot:=by simp [bP]
 have e2:bP [it']=it'.foot:=by simp [bP]
 have M:it∈L:=cz D;have l:∀ b o,S b=some o->b ∉ it.foot:=fun b o a f=>(h.pub b o a).2 (oL.2 ⟨it,M,f⟩);have hc:Inv w (bP [it]) [it'] S w':=by
  refine ⟨m,q,r,t,fun b a f=>g b a (by rwa [e1] at f),by simpa using J,by rw [e2]; exact hn,fun b a=>?_,fun b o a=>⟨?_,fun f=>?_⟩⟩
  ·rw [e2] at a; rw [e1]; exact hf b a
  ·exact (g b (h.publt a) (l b o a)).trans (h.pub b o a).1
  ·rw [e2] at f;have:=h.publt a;rcases hf b f with G|G
   ·exact l b o a G
   ·omega
 have:=h.stepAt D (B:=[]) hc fun b o a=>.inl a;simpa using this
theorem Inv.setBlk {w0 w:World} {X:List Nat} {L:List Item} {S:ae} (h:Inv w0 X L S w) {i b:Nat} {o:Obj} (g:L[i]?=some (.blk b o)) (l:Obj) {w':World}
  (m:w'={ w with heap:=w.heap.setIfInBounds b l }):Inv w0 X (L.set i (.blk b l)) S w':=by
 have q:=h.its _ (cz g);have f:b<w.heap.size:=Item.lt q b (by simp [Item.foot]);subst m;refine h.change g (by simp) rfl rfl rfl (fun c _ a=>?_) ?_ (fun c hc=>.inl hc) (by simp [Item.foot])
 ·simp only [Item.foot,bK] at a;simp only [];rw [WJ (fun e=>a e.symm)]
 ·simp [Item.holds,f]

def qc (S:ae) (b:Nat) (o:Obj):ae:=fun c=>if c=b then some o else S c
theorem Inv.publish {w0 w:World} {X:List Nat} {L:List Item} {S:ae} (h:Inv w0 X L S w) {i b:Nat} {o:Obj} (g:L[i]?=some (.blk b o)) :
  Inv w0 X (L.eraseIdx i) (qc S b o) w/\Sle S (qc S b o):=by
 have t:=h.its _ (cz g);have f:List.Sublist (L.eraseIdx i) L:=List.eraseIdx_sublist ..;have a:=h.sub f;have l:b ∉ bP (L.eraseIdx i):=by
  obtain ⟨r,_⟩:=AP g (.blk b o);have m:=h.nd;have B:i<L.length:=(fa.1 g).1;have p:List.Perm L (Item.blk b o::L.eraseIdx i):=by
   rw [U7]
   conv=>lhs; rw [r]
   exact zal132
  have:(bP (Item.blk b o::L.eraseIdx i)).Nodup:=(p.flatMap_right Item.foot).nodup m;simp only [bP,rQ,Item.foot,dS,fZ,ED] at this;exact this.1
 refine ⟨⟨a.size,a.os,a.tape,a.output,a.old,a.its,a.nd,a.new,fun c q hc=>?_⟩,fun c q hc=>?_⟩
 ·simp only [qc] at hc;split at hc
  ·rename_i e; subst e
   simp only [aY] at hc;subst hc;exact ⟨t,l⟩
  ·exact a.pub c q hc
 ·simp only [qc];split
  ·rename_i e; subst e
   exact absurd (oL.2 ⟨_,cz g,by simp [Item.foot]⟩) (h.pub _ _ hc).2
  ·exact hc

def Ext (n:Nat) (Y:List Nat) (S S':ae):Prop:=Sle S S'/\∀ b o,S' b=some o->S b=some o ∨ b∈Y ∨ n<=b
theorem Ext.refl (n:Nat) (Y:List Nat) (S:ae):Ext n Y S S:=⟨Sle.refl S,fun _ _ h=>.inl h⟩
def Tri (P:Program) (f:FuncId) (args:List Value) (I:List Item) (S:ae) (Post:Value->List Item->ae->Prop):Prop:=
 ∀ w:World,Inv w (bP I) I S w->Calls P f args.toArray w fun e w'=>∃ v I' S',e=.returned v/\Inv w (bP I) I' S' w'/\Ext w.heap.size (bP I) S S'/\Post v I' S'
def Pure (P:Program) (f:FuncId) (args:List Value) (S:ae) (r:Value):Prop:=
 ∀ w:World,Inv w [] [] S w->Calls P f args.toArray w fun e w'=>e=.returned r/\Inv w [] [] S w'

theorem Run.callP {P:Program} {f:FuncId} {fn:Func} {args:List Value} {w:World} {K:Value->World->Prop} (hf:P.funcs[f]?=some fn) (hn:(fn.name == "runtime.NumGoroutine" || fn.body.isNone)=false)
  (h:Calls P f args.toArray w fun
   | .returned v,w'=>K v w'
   | _,_=>False):Run P (ff (.func (.func f) #[] #[]) args) w K:=by
 simp only [IQ] at hn
 have a:¬ fn.name = "runtime.NumGoroutine" := by simpa using hn.1
 have g:¬ fn.body=none:=fun e=>by rw [e] at hn; simp at hn
 have e:(ff (.func (.func f) #[] #[]) args).run P w=.ok (.enter f args.toArray) w:=by
  simp [ff,Deferred.ofValue,invoke,callFunc,hf,a,g]
 unfold Run;rw [e];exact h

theorem Run.call {P:Program} {f:FuncId} {fn:Func} {args:List Value} {w w0:World} {X:List Nat} {A I:List Item} {S:ae} {Post:Value->List Item->ae->Prop} {K:Value->World->Prop}
  (hf:P.funcs[f]?=some fn) (hn:(fn.name == "runtime.NumGoroutine" || fn.body.isNone)=false) (h:Inv w0 X (A++I) S w) (hc:Tri P f args I S Post)
  (hk:∀ v I' S' w',Post v I' S'->Sle S S'->Inv w0 X (A++I') S' w'->K v w'):Run P (ff (.func (.func f) #[] #[]) args) w K:=by
 refine Run.callP hf hn ((hc w (h.sub (dH A I)).begin).mono ?_);rintro e w' ⟨v,I',S',rfl,g,a,i⟩;exact hk v I' S' w' i a.1 (Inv.step h g a.2)
theorem Run.callPure {P:Program} {f:FuncId} {fn:Func} {args:List Value} {w w0:World} {X:List Nat} {L:List Item} {S:ae} {r:Value} {K:Value->World->Prop}
  (hf:P.funcs[f]?=some fn) (hn:(fn.name == "runtime.NumGoroutine" || fn.body.isNone)=false) (h:Inv w0 X L S w) (hc:Pure P f args S r)
  (hk:∀ w',Inv w0 X L S w'->K r w'):Run P (ff (.func (.func f) #[] #[]) args) w K:=by
 refine Run.callP hf hn ((hc w h.nil.begin).mono ?_);rintro e w' ⟨rfl,a⟩;have i:=Inv.step (A:=L) (B:=[]) (by simpa using h) a fun b o g=>.inl g;exact hk w' (by simpa using i)
theorem Pure.less {P:Program} {f:FuncId} {args:List Value} {S S':ae} {r:Value} (h:Pure P f args S r) (l:Sle S S'):Pure P f args S' r:=by
 intro w g;refine (h w (g.less l)).mono ?_;rintro e w' ⟨m,a⟩;refine ⟨m,a.size,a.os,a.tape,a.output,a.old,by simp,by simp [bP],by simp [bP],fun b o i=>⟨?_,by simp [bP]⟩⟩;rw [a.old b (g.publt i) (by simp)];exact (g.pub b o i).1
end
section
open Go Go.RowKit

theorem Run.of {P:Program} {s:Sem Next} {w w':World} {v:Value} {K:Value->World->Prop} (h:s.run P w=.ok (.value v) w') (hk:K v w'):Run P s w K:=by
 unfold Run; rw [h]; exact hk
theorem Run.ofSkip {P:Program} {s:Sem Next} {w w':World} {K:Value->World->Prop} (h:s.run P w=.ok .skip w') (hk:K undef w'):Run P s w K:=by
 unfold Run; rw [h]; exact hk

def sk (P:Program) (T:TypeId):Option Nat:=match P.underlying T with
 | some (.struct _)|some (.array _ _)=>(P.info? T).map (·.size)
 | _=>none
def j7 (P:Program) (T:TypeId):Bool:=match P.underlying T with
 | some (.struct _)|some (.array _ _)=>false
 | some _=>match P.info? T with
  | some i=>Nat.beq i.size 1
  | none=>false
 | none=>false
def bT (P:Program) (T:TypeId) (f:Nat):Option Nat:=match P.underlying T with
 | some (.struct fs)=>match fs[f]? with
  | some fd=>match P.info? fd.type with
   | some i=>match i.size with
    | 0=>none
    | _+1=>some fd.offset
   | none=>none
  | none=>none
 | _=>none
def dl (P:Program) (T:TypeId):Option (TypeId × Nat):=match P.underlying T with
 | some (.slice e)=>(P.info? e).map fun i=>(e,i.size)
 | _=>none
def iI (P:Program) (T:TypeId):Option Value:=match P.info? T with
 | some i=>i.zero
 | none=>none

section
variable {P:Program} {w:World}
theorem mJ {T:TypeId} {i:TypeInfo} (h:P.info? T=some i):(sizeOf T).run P w=.ok i.size w:=by
 simp [sizeOf,typeInfo,h]
theorem Uc {T:TypeId} {z:Value} (h:iI P T=some z):(zeroValue T).run P w=.ok z w:=by
 unfold iI at h;split at h
 ·rename_i i a; simp [zeroValue,typeInfo,a,h]
 ·cases h
theorem Je {T:TypeId} {n:Nat} (h:sk P T=some n):(isAgg T).run P w=.ok true w/\(sizeOf T).run P w=.ok n w:=by
 unfold sk at h;split at h
 ·rename_i g f
  cases a:P.info? T with
  | none=>rw [a] at h; cases h
  | some i=>
   rw [a] at h;simp only [wV,aY] at h;subst h;exact ⟨by simp [isAgg,run_underlying f],mJ a⟩
 ·rename_i e m f
  cases a:P.info? T with
  | none=>rw [a] at h; cases h
  | some i=>
   rw [a] at h;simp only [wV,aY] at h;subst h;exact ⟨by simp [isAgg,run_underlying f],mJ a⟩
 ·cases h
theorem BG {T:TypeId} (h:j7 P T=true):(isAgg T).run P w=.ok false w/\(sizeOf T).run P w=.ok 1 w:=by
 unfold j7 at h;cases a:P.underlying T with
 | none=>rw [a] at h; cases h
 | some d=>
  rw [a] at h;cases f:P.info? T with
  | none=>rw [f] at h; cases d <;> cases h
  | some i=>
   rw [f] at h;have g:i.size=1:=by cases d <;> simp at h <;> exact h
   refine ⟨?_,by rw [mJ f,g]⟩;cases d <;> simp [isAgg,run_underlying a] at h ⊢

theorem om (b o n:Nat):(⟨b,o,none⟩:Addr).add n=⟨b,o+n,none⟩:=by unfold Addr.add; split <;> simp_all

theorem BO {T:TypeId} {n b o:Nat} {cs:List Value} (h:sk P T=some n) (hl:cs.length=n) (hc:∀ j v,cs[j]?=some v->w.cell? ⟨b,o+j,none⟩=some v) :
  (loadVar T ⟨b,o,none⟩).run P w=.ok (.agg cs.toArray) w:=by
 obtain ⟨g,i⟩:=Je (w:=w) h;have a:=run_loadCells_list (P:=P) (w:=w) ⟨b,o,none⟩ cs (fun j v f=>by rw [om]; exact hc j v f);rw [hl] at a;simp [loadVar,g,i,a]
theorem QV {T:TypeId} {b o:Nat} {v:Value} (h:j7 P T=true) (hc:w.cell? ⟨b,o,none⟩=some v):(loadVar T ⟨b,o,none⟩).run P w=.ok v w:=by
 simp [loadVar,(BG (w:=w) h).1,hc]
end

section mem
variable {P:Program} {w w0:World} {X:List Nat} {L:List Item} {S:ae} {K:Value->World->Prop}

theorem Inv.cellS (h:Inv w0 X L S w) {b o:Nat} {c:Array Value} {E:TypeId} {a:Nat × Nat} (f:S b=some (.cells c E a)):w.cell? ⟨b,o,none⟩=c[o]?:=by
 simp [World.cell?,(h.pub b _ f).1]
theorem Inv.cellL (h:Inv w0 X L S w) {i b o:Nat} {c:Array Value} {E:TypeId} {a:Nat × Nat} (f:L[i]?=some (.blk b (.cells c E a))):w.cell? ⟨b,o,none⟩=c[o]?:=by
 have:=h.its _ (cz f);simp only [Item.holds] at this;simp [World.cell?,this]

theorem bJ (h:Inv w0 X L S w) {T ty:TypeId} {v:Value} (hk:∀ b w',Inv w0 X (L++[.blk b (.cells v.cells T)]) S w'->K (.pointer (some ⟨b,0,none⟩)) w') :
  Run P (sOp (.box T (.const v)) ty) w K:=by
 refine Run.of (v:=.pointer (some ⟨w.heap.size,0,none⟩)) ?_ (hk _ _ (h.alloc _));simp [sOp,execOp,Instr.box,newVar,newRow,newObj,ev0,evE,Sem.run]
theorem aQ (h:Inv w0 X L S w) {T ty:TypeId} {z:Value} (a:iI P T=some z) (hk:∀ b w',Inv w0 X (L++[.blk b (.cells z.cells T)]) S w'->K (.pointer (some ⟨b,0,none⟩)) w') :
  Run P (sOp (.alloc T) ty) w K:=by
 refine Run.of (v:=.pointer (some ⟨w.heap.size,0,none⟩)) ?_ (hk _ _ (h.alloc _));simp [sOp,execOp,Instr.alloc,newVar,newRow,newObj,Uc a,Sem.run]
theorem aw {T ty:TypeId} {f b o k:Nat} (hf:bT P T f=some k) (hk:K (.pointer (some ⟨b,o+k,none⟩)) w) :
  Run P (sOp (.fieldAddr T (.const (.pointer (some ⟨b,o,none⟩))) f) ty) w K:=by
 refine Run.of ?_ hk;unfold bT at hf;split at hf <;> try cases hf
 rename_i m h
 split at hf <;> try cases hf
 rename_i q a
 split at hf <;> try cases hf
 rename_i i l
 split at hf <;> try cases hf
 rename_i n hn
 have g:¬ i.size=0:=by omega
 simp [sOp,execOp,Instr.fieldAt,run_underlying h,a,Instr.sureAddr,ev0,evE,fieldPlace,mJ l,g,om]
theorem cQ {T ty:TypeId} {b o:Nat} {v:Value} (a:j7 P T=true) (hc:w.cell? ⟨b,o,none⟩=some v) (hk:K v w) :
  Run P (sOp (.load T (.const (.pointer (some ⟨b,o,none⟩)))) ty) w K:=by
 refine Run.of ?_ hk;simp [sOp,execOp,Instr.loadAt,Instr.sureAddr,ev0,evE,QV a hc]
theorem ci {T ty:TypeId} {b o n:Nat} {cs:List Value} (a:sk P T=some n) (hl:cs.length=n) (hc:∀ j v,cs[j]?=some v->w.cell? ⟨b,o+j,none⟩=some v) (hk:K (.agg cs.toArray) w) :
  Run P (sOp (.load T (.const (.pointer (some ⟨b,o,none⟩)))) ty) w K:=by
 refine Run.of ?_ hk;simp [sOp,execOp,Instr.loadAt,Instr.sureAddr,ev0,evE,BO a hl hc]
theorem aT (h:Inv w0 X L S w) {T ty:TypeId} (i:Nat) {b o:Nat} {c:Array Value} {E:TypeId} {v:Value} (a:j7 P T=true) (f:L[i]?=some (.blk b (.cells c E))) (hc:c[o]?=some v) (hk:K v w) :
  Run P (sOp (.load T (.const (.pointer (some ⟨b,o,none⟩)))) ty) w K:=
 cQ a ((h.cellL f).trans hc) hk
theorem dC (h:Inv w0 X L S w) {T ty:TypeId} (i:Nat) {b o n:Nat} {c:Array Value} {E:TypeId} (cs:List Value) (a:sk P T=some n) (f:L[i]?=some (.blk b (.cells c E))) (hl:cs.length=n)
  (hc:∀ j v,cs[j]?=some v->c[o+j]?=some v) (hk:K (.agg cs.toArray) w):Run P (sOp (.load T (.const (.pointer (some ⟨b,o,none⟩)))) ty) w K:=
 ci a hl (fun j v g=>(h.cellL f).trans (hc j v g)) hk
theorem aC (h:Inv w0 X L S w) {T ty:TypeId} (i:Nat) {b n:Nat} {c:Array Value} {E:TypeId} (a:sk P T=some n) (f:L[i]?=some (.blk b (.cells c E))) (hl:c.size=n)
  (hk:K (.agg c) w):Run P (sOp (.load T (.const (.pointer (some ⟨b,0,none⟩)))) ty) w K:=by
 refine dC h i (o:=0) c.toList a f (by simpa using hl) (fun j v g=>by simpa using g) ?_;simpa using hk
theorem bB (h:Inv w0 X L S w) {T:TypeId} {K:Value->Prop} (i:Nat) {b n:Nat} {c:Array Value} {E:TypeId} (a:sk P T=some n) (f:L[i]?=some (.blk b (.cells c E))) (hl:c.size=n)
  (hk:K (.agg c)):aK P T (.pointer (some ⟨b,0,none⟩)) w K:=by
 unfold aK;refine ⟨_,?_,hk⟩;have:=BO (w:=w) (P:=P) (b:=b) (o:=0) (cs:=c.toList) a (by simpa using hl) (fun j v g=>by
  rw [h.cellL f]; simpa using g)
 simpa [asAddr] using this

def cB (c:Array Value) (o:Nat) (vs:List Value):Array Value:=(c.toList.take o++vs++c.toList.drop (o+vs.length)).toArray
theorem SZ {w:World} {g:Nat} {c cs:Array Value} {E:TypeId} {h:Nat × Nat} (a:w.heap[g]?=some (.cells c E h)) :
  w.setRow g cs={ w with heap:=w.heap.setIfInBounds g (.cells cs E h) }:=by
 have f:=(Xl.1 a).1;have l:=(Xl.1 a).2;unfold World.setRow
 congr 1
 apply Array.ext_getElem?;intro i;by_cases e:g=i
 ·subst e;rw [Array.getElem?_modify,ai rfl,a];simp [f]
 ·rw [WJ e,Array.getElem?_modify,ag e]
theorem dy (h:Inv w0 X L S w) {T ty:TypeId} (i:Nat) {b o:Nat} {c:Array Value} {E:TypeId} {v:Value} {n:Nat} (hn:v.cells.size=n) (q:(j7 P T && Nat.beq n 1 || sk P T == some n)=true)
  (r:L[i]?=some (.blk b (.cells c E))) (a:o+n<=c.size) (t:∀ u∈v.cells.toList,u.oneCell'=true)
  (hk:∀ w',Inv w0 X (L.set i (.blk b (.cells (cB c o v.cells.toList) E))) S w'->K undef w') :
  Run P (sOp (.store T (.const (.pointer (some ⟨b,o,none⟩))) (.const v)) ty) w K:=by
 have g:=h.its _ (cz r);simp only [Item.holds] at g;have l:(sizeOf T).run P w=.ok n w:=by
  simp only [jc,bM,beq_iff_eq] at q;rcases q with ⟨m,B⟩|m
  ·rw [(BG (w:=w) m).2,KF B]
  ·exact (Je (w:=w) m).2
 have f:=run_storeCells_at P b o E v.cells.toList 0 c w g (by simpa [hn] using a) t;refine Run.ofSkip (w':=w.setRow b (cB c o v.cells.toList)) ?_ (hk _ (h.setBlk r _ (SZ g)));simp only [tg] at f;simp [sOp,execOp,Instr.storeAt,Instr.sureAddr,ev0,evE,storeVar,l,hn,f,cB]
theorem az {T ty E:TypeId} {k b o len cap i:Nat} (a:dl P T=some (E,k)) (f:i<len) (hk:K (.pointer (some ⟨b,o+i * k,none⟩)) w) :
  Run P (sOp (.indexAddr T (.const (.slice (some ⟨b,o,none⟩) len cap)) (.const (.int .i64 i))) ty) w K:=by
 refine Run.of ?_ hk;unfold dl at a;split at a <;> try cases a
 rename_i e h
 cases g:P.info? e with
 | none=>rw [g] at a; cases a
 | some l=>
  rw [g] at a;simp only [wV,aY,cE] at a;obtain ⟨rfl,rfl⟩:=a;have m:(0:Int)<=(i:Int)/\(i:Int)<(len:Int):=⟨by omega,by omega⟩
  simp [sOp,execOp,Instr.indexAt,asIntOf,run_underlying h,ev0,evE,mJ g,f,om]
end mem

section pure
variable {P:Program} {w:World} {K:Value->World->Prop}
theorem aE {ty:TypeId} {a:Addr} (hk:K (.pointer (some a)) w):Run P (sOp (.nilCheck (.const (.pointer (some a)))) ty) w K:=
 Run.of (by simp [sOp,execOp,ev0,evE]) hk
theorem xf {ty:TypeId} {c:Bool} {a b:Value} (hk:K (if c=true then a else b) w):Run P (sOp (.pick (.const (.bool c)) (.const a) (.const b)) ty) w K:=
 Run.of (by simp [sOp,execOp,ev0,evE,asBool]) hk
theorem cw {T ty:TypeId} {c:Bool} (hk:K (.bool (!c)) w):Run P (sOp (.unOp .not T (.const (.bool c))) ty) w K:=
 Run.of (by simp [sOp,execOp,ev0,evE,Op.unary]) hk
theorem av {ty:TypeId} {vs:Array Value} {i:Nat} {v:Value} (a:vs[i]?=some v) (hk:K v w):Run P (sOp (.extract (.const (.tuple vs)) i) ty) w K:=
 Run.of (by simp [sOp,execOp,ev0,evE,Instr.extract,a]) hk
theorem mP {fn:Fn} {a b:List Value} (hk:K (.func fn a.toArray b.toArray) w):Run P (eR fn a b) w K:=
 Run.of (by simp [eR,Instr.makeFunc]) hk
theorem c8 (op:BinOp) (T:TypeId) (x y:Operand) (k k':IntKind) (a b:Int):(eqGuard op T x y (.int k a) (.int k' b)).run P w=.ok () w:=by
 unfold eqGuard; simp
theorem sE (op:BinOp) (T:TypeId) (x y:Operand) (a b:ByteArray):(eqGuard op T x y (.string a) (.string b)).run P w=.ok () w:=by
 unfold eqGuard; simp
theorem xF (op:BinOp) (T:TypeId) (x y:Operand) (a b:Bool):(eqGuard op T x y (.bool a) (.bool b)).run P w=.ok () w:=by
 unfold eqGuard; simp
theorem bC {T:TypeId} {f g:Bool} {a b:Int} (h:-9223372036854775808<=a+b/\a+b<=9223372036854775807) (hk:K (.int .i64 (a+b)) w):Run P (c9 .add T f g (.int .i64 a) (.int .i64 b)) w K:=
 Run.of (by simp [c9,c8,binOp,Op.intArith,IntWalk.i64_in _ h]) hk
theorem kT {T:TypeId} {f g:Bool} {a b:Int} (h:-9223372036854775808<=a - b/\a - b<=9223372036854775807) (hk:K (.int .i64 (a - b)) w):Run P (c9 .sub T f g (.int .i64 a) (.int .i64 b)) w K:=
 Run.of (by simp [c9,c8,binOp,Op.intArith,IntWalk.i64_in _ h]) hk
theorem bS {T:TypeId} {f g:Bool} {k:IntKind} {a b:Int} (hk:K (.bool (decide (a<b))) w):Run P (c9 .lss T f g (.int k a) (.int k b)) w K:=
 Run.of (by simp [c9,c8,binOp,Op.intCmp]) hk
theorem fU {T:TypeId} {f g:Bool} {k:IntKind} {a b:Int} (hk:K (.bool (decide (a<=b))) w):Run P (c9 .leq T f g (.int k a) (.int k b)) w K:=
 Run.of (by simp [c9,c8,binOp,Op.intCmp]) hk
theorem eP {T:TypeId} {f g:Bool} {k:IntKind} {a b:Int} (hk:K (.bool (decide (b<a))) w):Run P (c9 .gtr T f g (.int k a) (.int k b)) w K:=
 Run.of (by simp [c9,c8,binOp,Op.intCmp]) hk
theorem jM {T:TypeId} {f g:Bool} {k:IntKind} {a b:Int} (hk:K (.bool (decide (b<=a))) w):Run P (c9 .geq T f g (.int k a) (.int k b)) w K:=
 Run.of (by simp [c9,c8,binOp,Op.intCmp]) hk
theorem bw {T:TypeId} {f g:Bool} {k:IntKind} {a b:Int} (hk:K (.bool (decide (a=b))) w):Run P (c9 .eql T f g (.int k a) (.int k b)) w K:=
 Run.of (by simp [c9,c8,binOp,Op.intCmp]; rfl) hk
theorem fW {T:TypeId} {f g:Bool} {k:IntKind} {a b:Int} (hk:K (.bool (!decide (a=b))) w):Run P (c9 .neq T f g (.int k a) (.int k b)) w K:=
 Run.of (by simp [c9,c8,binOp,Op.intCmp]; rfl) hk
theorem M3 (a:ByteArray):∀ (n i:Nat) (r:List UInt8),a.size - i=n->ByteArray.toList.loop a i r=r.reverse++a.data.toList.drop i:=by
 intro n;induction n with
 | zero=>
  intro i r hn;unfold ByteArray.toList.loop;have g:¬ i<a.size:=by omega
  have f:a.data.toList.length<=i:=by
   have e:a.data.toList.length=a.size:=by rw [Qp]; rfl
   omega
  rw [ag g,vK f,bV]
 | succ n m=>
  intro i r hn;unfold ByteArray.toList.loop;have g:i<a.size:=by omega
  have f:i<a.data.toList.length:=by
   have e:a.data.toList.length=a.size:=by rw [Qp]; rfl
   omega
  rw [ai g,m (i+1) _ (by omega),dY f];have h:i<a.data.size:=by simpa using f
  have l:a.get! i=a.data.toList[i]:=by
   show a.data[i]! = _;rw [getElem!_pos a.data i h,Array.getElem_toList]
  rw [l,List.reverse_cons,dx];rfl
theorem y9 (a:ByteArray):a.toList=a.data.toList:=by
 unfold ByteArray.toList;rw [M3 a _ 0 [] rfl];rfl
theorem xD (a b:ByteArray):(a.toList == b.toList)=decide (a=b):=by
 rw [y9,y9,nZ];simp only [beq_iff_eq,bD];constructor
 ·intro h;cases a; cases b;simp only [ByteArray.mk.injEq];exact FE.1 h
 ·rintro rfl; rfl
theorem bQ {T:TypeId} {f g:Bool} {a b:ByteArray} (hk:K (.bool (decide (a=b))) w):Run P (c9 .eql T f g (.string a) (.string b)) w K:=
 Run.of (by simp only [c9,binOp,Op.stringOp,Sem.run_bind,sE,Result.andThen_ok,Sem.run_pure,xD]) hk
theorem Ql {T:TypeId} {f g:Bool} {a b:ByteArray} (hk:K (.bool (!decide (a=b))) w):Run P (c9 .neq T f g (.string a) (.string b)) w K:=
 Run.of (by simp only [c9,binOp,Op.stringOp,Sem.run_bind,sE,Result.andThen_ok,Sem.run_pure,xD]) hk
theorem TY {T:TypeId} {f g:Bool} {a b:Bool} (h:P.underlying T=some .bool) (hk:K (.bool (!(a == b))) w):Run P (c9 .neq T f g (.bool a) (.bool b)) w K:=
 Run.of (by
  have i:(Op.equal T (.bool a) (.bool b)).run P w=.ok (a == b) w:=by
   rw [Op.equal,Op.maxDepth,Op.equalIn.eq_def];simp [run_underlying h]
  simp only [c9,binOp,Sem.run_bind,xF,Result.andThen_ok,i,Sem.run_pure]) hk
theorem jw {T ty:TypeId} {cs:List Bool} {s:ByteArray} (a:P.underlying T=some .string) (hk:K (.int .i64 s.size) w):Run P (cm .len #[T] ty cs [.string s]) w K:=
 Run.of (by simp [cm,builtin,Builtin.len_,run_underlying a,goInt]) hk
theorem iA {T ty:TypeId} {cs:List Bool} {a:Option Addr} {n c:Nat} {Ek:TypeId × Nat} (f:dl P T=some Ek) (hk:K (.int .i64 n) w):Run P (cm .len #[T] ty cs [.slice a n c]) w K:=by
 refine Run.of ?_ hk;unfold dl at f;split at f <;> try cases f
 rename_i e g
 simp [cm,builtin,Builtin.len_,run_underlying g,goInt]
theorem mj {T ty:TypeId} {s:ByteArray} {i:Nat} (a:P.underlying T=some .string) (f:i<s.size) (hk:K (.int .u8 s[i].toNat) w) :
  Run P (sOp (.index T (.const (.string s)) (.const (.int .i64 i))) ty) w K:=by
 refine Run.of ?_ hk;have g:(0:Int)<=(i:Int):=by omega
 simp [sOp,execOp,Instr.index,asIntOf,run_underlying a,ev0,evE,f]
end pure

theorem aD {c:Bool} {A B:Prop} (a:c=true->A) (hf:c=false->B):CondV (.bool c) A B:=by
 unfold CondV;cases c
 ·exact hf rfl
 ·exact a rfl
theorem aL {p:Prop} [Decidable p] {A B:Prop} (a:p->A) (hf:¬ p->B):CondV (.bool (decide p)) A B:=
 aD (fun h=>a (of_decide_eq_true h)) (fun h=>hf (of_decide_eq_false h))
theorem PJ {c b:Bool} {A B:Prop} (a:c=b->A) (hf:c≠b->B):aq (.bool c) b A B:=by
 unfold aq;simp only [];split
 ·rename_i e; exact a e
 ·rename_i e; exact hf e
end
section
open Go Go.RowKit
attribute [local irreducible] Run CondV aq aK

def inI (n:Int):Prop:=-9223372036854775808<=n/\n<=9223372036854775807

inductive T where
 | mk (kind n:Int) (name:ByteArray) (kids:List T)
namespace T
def kind:T->Int
 | .mk k _ _ _=>k
def n:T->Int
 | .mk _ n _ _=>n
def name:T->ByteArray
 | .mk _ _ s _=>s
def kids:T->List T
 | .mk _ _ _ ks=>ks
theorem ind {p:T->Prop} (h:∀ k n s ks,(∀ t∈ks,p t)->p (.mk k n s ks)) (t:T):p t:=
 T.rec (motive_1:=p) (motive_2:=fun l=>∀ t∈l,p t) (fun k n s ks g=>h k n s ks g) (by simp) (fun a l i m t f=>by
  rcases bY.1 f with rfl|f
  ·exact i
  ·exact m t f) t
end T
structure C where
 head:T
 body:List T

def aX (c:Array Value) (o k:Nat):List Value:=(c.toList.drop o).take k
def RdSl {α:Type} (S:ae) (k:Nat) (R:List Value->α->Prop) (v:Value) (xs:List α):Prop:=
 ∃ a cap,v=.slice a xs.length cap/\xs.length<=cap/\cap<=maxLen/\
  (xs=[] ∨ ∃ b o c E fz,a=some ⟨b,o,none⟩/\S b=some (.cells c E fz)/\∀ i (h:i<xs.length),R (aX c (o+i * k) k) xs[i])
inductive RdT (S:ae):List Value->T->Prop
 | nil {k n:Int} {s:ByteArray} {a:Option Addr} {cap:Nat} (hk:inI k) (hn:inI n) (hs:s.size<=maxLen) (hc:cap<=maxLen) :
   RdT S [.int .i64 k,.int .i64 n,.string s,.slice a 0 cap] (.mk k n s [])
 | cons {k n:Int} {s:ByteArray} {kids:List T} {b o cap:Nat} {c:Array Value} {E:TypeId} {fz:Nat × Nat} (hk:inI k) (hn:inI n) (hs:s.size<=maxLen) (hl:kids.length<=cap) (hc:cap<=maxLen)
   (hS:S b=some (.cells c E fz)) (h:∀ i (h:i<kids.length),RdT S (aX c (o+i * 4) 4) kids[i]) :
   RdT S [.int .i64 k,.int .i64 n,.string s,.slice (some ⟨b,o,none⟩) kids.length cap] (.mk k n s kids)
theorem RdT.iff {S:ae} {cs:List Value} {t:T}:RdT S cs t ↔
  ∃ ks,cs=[.int .i64 t.kind,.int .i64 t.n,.string t.name,ks]/\inI t.kind/\inI t.n/\t.name.size<=maxLen/\RdSl S 4 (RdT S) ks t.kids:=by
 constructor
 ·intro h;cases h with
  | nil hk hn f hc=>exact ⟨_,rfl,hk,hn,f,_,_,rfl,bk _,hc,.inl rfl⟩
  | cons hk hn f hl hc g h=>exact ⟨_,rfl,hk,hn,f,_,_,rfl,hl,hc,.inr ⟨_,_,_,_,_,rfl,g,h⟩⟩
 ·obtain ⟨k,n,s,kids⟩:=t;rintro ⟨ks,rfl,hk,hn,f,a,cap,rfl,hl,hc,h⟩;rcases h with h|⟨b,o,c,E,i,rfl,g,h⟩
  ·simp only [T.kids] at h;subst h;exact RdT.nil hk hn f hc
  ·exact RdT.cons hk hn f hl hc g h
theorem RdT.length {S:ae} {cs:List Value} {t:T} (h:RdT S cs t):cs.length=4:=by
 obtain ⟨ks,rfl,_⟩:=RdT.iff.1 h; rfl
theorem RdT.mono {S S':ae} (a:Sle S S') {cs:List Value} {t:T} (h:RdT S cs t):RdT S' cs t:=by
 induction h with
 | nil hk hn a hc=>exact RdT.nil hk hn a hc
 | cons hk hn f hl hc g _ i=>exact RdT.cons hk hn f hl hc (a _ _ g) i
theorem RdSl.mono {α:Type} {S S':ae} {k:Nat} {R R':List Value->α->Prop} {v:Value} {xs:List α} (f:Sle S S') (hR:∀ cs x,R cs x->R' cs x) (h:RdSl S k R v xs):RdSl S' k R' v xs:=by
 obtain ⟨a,cap,rfl,hl,hc,h⟩:=h;refine ⟨a,cap,rfl,hl,hc,?_⟩;rcases h with h|⟨b,o,c,E,l,m,q,h⟩
 ·exact .inl h
 ·exact .inr ⟨b,o,c,E,l,m,f _ _ q,fun i g=>hR _ _ (h i g)⟩
theorem RdSl.monoT {S S':ae} {v:Value} {xs:List T} (a:Sle S S') (h:RdSl S 4 (RdT S) v xs):RdSl S' 4 (RdT S') v xs:=h.mono a fun _ _=>RdT.mono a
def RdC (S:ae) (cs:List Value) (c:C):Prop:=∃ hd ks,cs=hd++[ks]/\RdT S hd c.head/\RdSl S 4 (RdT S) ks c.body
theorem RdC.length {S:ae} {cs:List Value} {c:C} (h:RdC S cs c):cs.length=5:=by
 obtain ⟨hd,ks,rfl,h,_⟩:=h; simp [h.length]
theorem RdC.mono {S S':ae} (a:Sle S S') {cs:List Value} {c:C} (h:RdC S cs c):RdC S' cs c:=by
 obtain ⟨hd,ks,rfl,f,g⟩:=h; exact ⟨hd,ks,rfl,f.mono a,g.monoT a⟩
theorem RdSl.monoC {S S':ae} {v:Value} {xs:List C} (a:Sle S S') (h:RdSl S 5 (RdC S) v xs):RdSl S' 5 (RdC S') v xs:=h.mono a fun _ _=>RdC.mono a

theorem RdSl.at_ {α:Type} {S:ae} {k:Nat} {R:List Value->α->Prop} {v:Value} {xs:List α} (h:RdSl S k R v xs) {i:Nat} (g:i<xs.length) :
  ∃ b o cap c E f,v=.slice (some ⟨b,o,none⟩) xs.length cap/\S b=some (.cells c E f)/\R (aX c (o+i * k) k) xs[i]:=by
 obtain ⟨a,cap,rfl,hl,hc,h⟩:=h;rcases h with h|⟨b,o,c,E,f,rfl,l,h⟩
 ·subst h; simp at g
 ·exact ⟨b,o,cap,c,E,f,rfl,l,h i g⟩
theorem RdSl.le {α:Type} {S:ae} {k:Nat} {R:List Value->α->Prop} {v:Value} {xs:List α} (h:RdSl S k R v xs):xs.length<=maxLen:=by
 obtain ⟨a,cap,rfl,hl,hc,h⟩:=h; exact gz hl hc
theorem aF {c:Array Value} {o k:Nat} {cs:List Value} (e:aX c o k=cs):∀ j v,cs[j]?=some v->c[o+j]?=some v:=by
 intro j v h;subst e;rw [aX,wh] at h;split at h
 ·rw [z6] at h; simpa using h
 ·cases h

section
variable {P:Program} {w w0:World} {X:List Nat} {L:List Item} {S:ae} {K:Value->World->Prop}
theorem aJ {α:Type} {T ty:TypeId} {cs:List Bool} {k:Nat} {R:List Value->α->Prop} {v:Value} {xs:List α} {Ek:TypeId × Nat} (h:RdSl S k R v xs) (f:dl P T=some Ek)
  (hk:K (.int .i64 xs.length) w):Run P (cm .len #[T] ty cs [v]) w K:=by
 obtain ⟨a,cap,rfl,_⟩:=h;exact iA f hk
def elP (v:Value) (n:Nat):Value:=match v with
 | .slice (some a) _ _=>.pointer (some ⟨a.block,a.off+n,none⟩)
 | _=>undef
def elQ (v:Value) (n d:Nat):Value:=match v with
 | .slice (some a) _ _=>.pointer (some ⟨a.block,a.off+n+d,none⟩)
 | _=>undef
section
variable {K:Value->Value->World->Prop} {K3:Value->Value->Value->World->Prop}
theorem co {α:Type} {T U ty f E:TypeId} {k:Nat} {R:List Value->α->Prop} {v:Value} {xs:List α} (l:Inv w0 X L S w) (h:RdSl S k R v xs) (m:dl P T=some (E,k)) (q:sk P U=some k)
  {i:Nat} (g:i<xs.length) (a:∀ cs x,R cs x->cs.length=k) (hk:∀ cs,R cs xs[i]->K (elP v (i * k)) (.agg cs.toArray) w) :
  Run P (sOp (.indexAddr T (.const v) (.const (.int .i64 i))) ty) w fun p w'=>Run P (sOp (.load U (.const p)) f) w' (K p):=by
 obtain ⟨b,o,cap,c,E',B,rfl,t,hR⟩:=h.at_ g;refine az m g ?_;refine ci q (a _ _ hR) (fun j v r=>?_) (hk _ hR);rw [l.cellS t];exact aF rfl j v r
theorem qO {α:Type} {T Tf U ty g a E:TypeId} {k f d:Nat} {R:List Value->α->Prop} {v u:Value} {xs:List α} (r:Inv w0 X L S w) (h:RdSl S k R v xs) (t:dl P T=some (E,k)) (hf:bT P Tf f=some d) (B:j7 P U=true)
  {i:Nat} (m:i<xs.length) (hc:∀ cs,R cs xs[i]->cs[d]?=some u) (hk:K3 (elP v (i * k)) (elQ v (i * k) d) u w) :
  Run P (sOp (.indexAddr T (.const v) (.const (.int .i64 i))) ty) w fun p w'=>Run P (sOp (.fieldAddr Tf (.const p) f) g) w' fun q l=>Run P (sOp (.load U (.const q)) a) l (K3 p q):=by
 obtain ⟨b,o,cap,c,E',G,rfl,D,hR⟩:=h.at_ m;refine az t m ?_;refine aw hf ?_;refine cQ B ?_ hk;rw [r.cellS D];exact aF rfl d u (hc _ hR)
theorem af {T U ty a E:TypeId} {f d b:Nat} {c:Array Value} {u:Value} (g:Inv w0 X L S w) (i:Nat) (h:L[i]?=some (.blk b (.cells c E))) (hf:bT P T f=some d) (l:j7 P U=true) (hc:c[d]?=some u)
  (hk:K (.pointer (some ⟨b,d,none⟩)) u w):Run P (sOp (.fieldAddr T (.const (.pointer (some ⟨b,0,none⟩))) f) ty) w fun q w'=>Run P (sOp (.load U (.const q)) a) w' (K q):=by
 refine aw hf ?_;rw [cP];exact aT g i l h hc hk
end
end
theorem Pure.mk {P:Program} {f:FuncId} {args:List Value} {S:ae} {r:Value} (h:∀ w:World,Inv w [] [] S w->Calls P f args.toArray w fun e w'=>e=.returned r/\Inv w [] [] S w'):Pure P f args S r:=h
theorem done {w w':World} {L:List Item} {S:ae} {r a:Value} (h:Inv w [] L S w') (e:a=r):Ending.returned a=.returned r/\Inv w [] [] S w':=⟨by rw [e],h.nil⟩

section
variable {P:Program} {w:World} {K:Value->World->Prop} {ty:TypeId}
theorem bz {b:Bool} {A B:Prop} (h:A):aq (.bool b) b A B:=by unfold aq; simp only [if_true]; exact h
theorem cG {c b:Bool} {A B:Prop} (hc:c≠b) (h:B):aq (.bool c) b A B:=by unfold aq; simp only [ag hc]; exact h
theorem NJ {b:Bool} {A B:Prop} (h:B):aq undef b A B:=by unfold aq; exact h
theorem zp {v u:Value} (hk:K v w):Run P (sOp (.pick (.const (.bool true)) (.const v) (.const u)) ty) w K:=xf hk
theorem qU {v u:Value} (hk:K u w):Run P (sOp (.pick (.const (.bool false)) (.const v) (.const u)) ty) w K:=xf hk
theorem rpG {p q:Prop} (h:q) (i:q->p:=by (intro h; (repeat (first|refine bz ?_|refine cG (by decide) ?_|refine NJ ?_|refine zp ?_|refine qU ?_)); exact h)):p:=i h
end
end
section
open Go Go.RowKit
attribute [local irreducible] Run CondV aq aK

def oE (P:Program) (T:TypeId):Option (TypeId × Nat × Nat × Value):=match P.underlying T with
 | some (.slice e)=>match P.info? e with
  | some i=>match i.zero with
   | some z=>match Nat.beq z.cells.size i.size with
    | true=>some (e,i.size,i.bytes,z)
    | false=>none
   | none=>none
  | none=>none
 | _=>none
theorem qb {P:Program} {T e:TypeId} {k by_:Nat} {z:Value} (h:oE P T=some (e,k,by_,z)) :
  P.underlying T=some (.slice e)/\∃ i,P.info? e=some i/\i.zero=some z/\i.size=k/\i.bytes=by_/\z.cells.size=k:=by
 unfold oE at h;split at h <;> try cases h
 rename_i m a
 split at h <;> try cases h
 rename_i i f
 split at h <;> try cases h
 rename_i o g
 split at h <;> try cases h
 rename_i l
 exact ⟨a,i,f,g,rfl,rfl,KF l⟩

theorem MT:∀ (l:List Value) (o j:Nat) (cs:Array Value),o+j+l.length<=cs.size->
  (l.zipIdx j).foldl (fun cs p=>cs.setIfInBounds (o+p.2) p.1) cs=cB cs (o+j) l
 | [],o,j,cs,_=>by simp [cB]
 | v::l,o,j,cs,h=>by
  simp only [bq] at h;rw [List.zipIdx_cons,List.foldl_cons,MT l o (j+1) _ (by simp; omega)];apply FE.1;simp only [cB,bq];rw [Yp,show o+(j+1)=o+j+1 by omega];have a:o+j<cs.toList.length:=by simp; omega
  rw [eV (by simpa using a),List.take_set_of_le (aS _)];simp only [Oi,dx,dS,fZ];rw [List.drop_set_of_lt (by omega),show o+j+1+l.length=o+j+(l.length+1) by omega]
theorem MY (v:Value) (o:Nat) (cs:Array Value) (h:o+v.cells.size<=cs.size) :
  v.cells.zipIdx.foldl (fun cs (c,j)=>cs.setIfInBounds (o+j) c) cs=cB cs o v.cells.toList:=by
 rw [<- Array.foldl_toList,Array.toList_zipIdx];exact MT v.cells.toList o 0 cs (by simpa using h)
theorem kK (c:Array Value) (o:Nat) (vs:List Value) (h:o+vs.length<=c.size):(cB c o vs).size=c.size:=by
 simp [cB]; omega
theorem yT (c:Array Value) (vs:List Value) (h:vs.length=c.size):cB c 0 vs=vs.toArray:=by
 simp [cB,h]
theorem hY {c:Array Value} {o:Nat} {vs:List Value} {p k:Nat} (hf:o+vs.length<=c.size) (h:p+k<=o ∨ o+vs.length<=p):aX (cB c o vs) p k=aX c p k:=by
 apply vO;intro i;simp only [aX,cB,wh,z6];split
 ·rename_i a
  simp only [Wh,bA,cM,wh,z6,Qp];rcases h with h|h
  ·rw [ai (by omega),ai (by omega),ai (by omega)]
  ·rw [ag (by omega)]
   congr 1
   omega
 ·rfl
theorem iu {c:Array Value} {o:Nat} {vs:List Value} (hf:o+vs.length<=c.size):aX (cB c o vs) o vs.length=vs:=by
 simp only [aX,cB];rw [dx,List.drop_append_of_le_length (by simp; omega),vK (by simp; omega),fZ,FZ]

section
variable {P:Program} {w w0:World} {X:List Nat} {L:List Item} {S:ae} {K:Value->World->Prop}

theorem uP (h:Inv w0 X L S w) {T e:TypeId} {k by_:Nat} {z v:Value} (g:oE P T=some (e,k,by_,z)) (a:v.cells.size=k) (f:k<=65536) (l:0<k)
  (hk:∀ w',Inv w0 X (L++[.blk w.heap.size (.cells v.cells e)]) S w'->K (.slice (some ⟨w.heap.size,0,none⟩) 1 1) w') :
  Run P (cd T 1 [(0,v)]) w K:=by
 obtain ⟨m,i,o,q,r,G,t⟩:=qb g;refine Run.of (v:=.slice (some ⟨w.heap.size,0,none⟩) 1 1) (w':={ w with heap:=w.heap.push (.cells v.cells e) }) ?_ (hk _ (h.alloc _));have B:¬ (k > 2 ^ 24):=by omega
 have D:¬ k=0:=by omega
 have hf:Instr.fill (fun i=>some (i * k,k)) ((Array.range k).map (z.cells[· % z.cells.size]!)) [(0,v)]=some v.cells:=by
  simp only [Instr.fill,AZ,cP,a,Array.size_map,Array.size_range,ne_eq,not_true_eq_false,decide_false,gt_iff_lt,Nat.lt_irrefl,Bool.or_self,if_false,Ha];have:=MY v 0 ((Array.range k).map (z.cells[· % z.cells.size]!)) (by simp [a]);simp only [cP] at this;rw [this,yT _ _ (by simp [a])]
 simp [cd,Instr.buildSlice,run_underlying m,sizeOf,typeInfo,o,r,B,D,zeroValue,q,hf,newRow,newObj,Sem.run]
theorem dB (h:Inv w0 X L S w) {T e:TypeId} {k by_:Nat} {z v:Value} (g:oE P T=some (e,k,by_,z)) (i:v.cells.size=k) (a:k<=65536) (f:0<k)
  (hk:∀ b w',Inv w0 X (L++[.blk b (.cells v.cells e)]) S w'->K (.slice (some ⟨b,0,none⟩) 1 1) w') :
  Run P (cd T 1 [(0,v)]) w K:=uP h g i a f (hk _)
theorem ei (h:Inv w0 X L S w) {T e:TypeId} {k by_:Nat} {z:Value} (g:oE P T=some (e,k,by_,z))
  (hk:∀ v w',Inv w0 X (L++[.row v e k 0 []]) S w'->K v w') :
  Run P (cd T 0 []) w K:=by
 obtain ⟨l,i,m,t,B,a,o⟩:=qb g;have q:Inv w0 X (L++[.row (.slice (some ⟨w.heap.size,0,none⟩) 0 0) e k 0 []]) S { w with heap:=w.heap.push (.cells #[] e) }:=by
  refine h.addItem (w':={ w with heap:=w.heap.push (.cells #[] e) }) ⟨by simp,rfl,rfl,rfl,fun b a=>by simp [Array.getElem?_push,Nat.ne_of_lt a]⟩ ?_ ?_ ?_
  ·exact ⟨by simp,.inr ⟨w.heap.size,0,#[],rfl,bk _,by simp,aS _,bk _,by simp,by simp⟩⟩
  ·simp [Item.foot,Value.ownBlock]
  ·simp [Item.foot,Value.ownBlock]
 refine Run.of (v:=.slice (some ⟨w.heap.size,0,none⟩) 0 0) (w':={ w with heap:=w.heap.push (.cells #[] e) }) ?_ (hk _ _ q);have r:∀ f:Nat->Value,(Array.range 0).map f=#[]:=fun f=>by simp
 simp [cd,Instr.buildSlice,run_underlying l,sizeOf,typeInfo,m,Instr.fill,newRow,newObj,Sem.run,r]

theorem Inv.rowNil (h:Inv w0 X L S w) (e:TypeId) (k:Nat):Inv w0 X (L++[.row (.slice none 0 0) e k 0 []]) S w:=
 h.addItem (Grow.refl w) (it:=.row (.slice none 0 0) e k 0 []) (World.ownsRow_nil w 0 e k) (by simp [Item.foot,Value.ownBlock]) (by simp [Item.foot,Value.ownBlock])

theorem JZ {P:Program} (w:World) (T ty e:TypeId) (h:TypeInfo) (z:Value) (D:P.underlying T=some (.slice e)) (G:P.info? e=some h) (V:h.zero=some z)
  {v J:Value} {n m B:Nat} {xs f:List Value} {a:Addr} {w':World} (o:w.ownsRow 0 e h.size v n xs)
  (hl:f.length=m * h.size) (i:∀ j u,f[j]?=some u->w.cell? (a.add j)=some u) (Z:∀ u∈f,u.oneCell'=true) (Y:n+m<=4294967296) (l:(n+m) * h.bytes<=140737488355328)
  (M:(Builtin.append_ #[T,T] ty #[v,.slice (some a) m B]).run P w=.ok J w') (t:J=.slice none 0 0↔v=.slice none 0 0/\m=0) :
  ∀ c,J.ownBlock=some c->v.ownBlock=some c ∨ w.heap.size<=c:=by
 intro c hc;rcases o.2 with ⟨rfl,rfl⟩|⟨g,cap,N,rfl,_,hg,a0,a1,O,U⟩
 ·by_cases hm:m=0
  ·rw [t.2 ⟨rfl,hm⟩] at hc;simp [Value.ownBlock] at hc
  ·have q:=run_append_nil (P:=P) (w:=w) T ty e h z D G V a m B f hl i (by omega) (by omega) (by simp only [cP] at l; omega);rw [M] at q;simp only [Result.ok.injEq] at q;rw [q.1] at hc;simp only [Value.ownBlock,aY] at hc;right; omega
 ·by_cases r:n+m<=cap
  ·have q:=run_append_room (P:=P) w T ty e h D G g n cap N hg a m B f hl i Z r (by rw [hl,O,<- AO]; exact gM _ r);rw [M] at q;simp only [Result.ok.injEq] at q;rw [q.1] at hc;left; exact hc
  ·have q:=run_append_grow (P:=P) (w:=w) T ty e h z D G V ⟨g,0,none⟩ n cap xs o.1 (o.cells (g:=g) rfl) a m B f hl i (by omega) (by omega) (growslice_fits (by omega) l);rw [M] at q;simp only [Result.ok.injEq] at q;rw [q.1] at hc;simp only [Value.ownBlock,aY] at hc;right; omega

theorem dE (h:Inv w0 X L S w) {T ty e:TypeId} {k by_ n m Z b o:Nat} {z v:Value} {cs:List Bool} {xs:List Value} (i:Nat) (f:List Value)
  (hT:oE P T=some (e,k,by_,z)) (M:0<k) (hi:L[i]?=some (.row v e k n xs)) (hl:f.length=m * k)
  (t:∀ j u,f[j]?=some u->w.cell? ⟨b,o+j,none⟩=some u) (h1:∀ u∈f,u.oneCell'=true) (r:n+m<=4294967296) (N:by_<=32768)
  (hk:∀ B w',Inv w0 X (L.set i (.row B e k (n+m) (xs++f))) S w'->K B w') :
  Run P (cm .append #[T,T] ty cs [v,.slice (some ⟨b,o,none⟩) m Z]) w K:=by
 obtain ⟨hu,D,G,hz,U,hb,V⟩:=qb hT;have q:=h.its _ (cz hi);simp only [Item.holds] at q;have g:(n+m) * by_<=140737488355328:=gz (L5 r N) (by decide);have l:∀ j u,f[j]?=some u->w.cell? ((⟨b,o,none⟩:Addr).add j)=some u:=fun j u hj=>by rw [om]; exact t j u hj
 obtain ⟨B,w',hr,h2,J,h4⟩:=run_append_own (P:=P) w 0 T ty e D z k by_ hu G hz U hb V M v n xs q ⟨b,o,none⟩ m Z f hl
  l h1 (by simp only [maxLen]; omega) g (bk _)
 have Y:=JZ (P:=P) w T ty e D z hu G hz (by rw [U]; exact q) (by rw [U]; exact hl) l h1 r (by rw [hb]; exact g) hr h4;refine Run.of (v:=B) (w':=w') ?_ (hk _ _ ?_)
 ·simp [cm,builtin,hr]
 ·refine h.change hi J.size J.os J.tape J.output (fun c hc O=>J.block c hc ?_) (it':=.row B e k (n+m) (xs++f)) h2 ?_ ?_
  ·intro e';exact O (by simp [Item.foot,<- e'])
  ·intro c hc;simp only [Item.foot,Option.mem_toList] at hc ⊢;exact Y c hc
  ·cases B <;> simp [Item.foot,Value.ownBlock];rename_i a _ _
   cases a <;> simp
end
def Fx (D:Nat->Bool):Nat->List Prop->Prop
 | _,[]=>True
 | k,p::l=>(D k=true->p)/\Fx D (k+1) l
def Y6 (D:Nat->Bool):Nat->List Prop->Prop
 | _,[]=>True
 | k,_::l=>D k=true/\Y6 D (k+1) l
def YX:List Prop->Prop
 | []=>True
 | p::l=>p/\YX l
theorem Fx.nil:∀ (k:Nat) (l:List Prop),Fx (fun _=>false) k l
 | _,[]=>trivial
 | k,_::l=>⟨aI,Fx.nil (k+1) l⟩
theorem Fx.low {D:Nat->Bool} {m:Nat}:∀ (k:Nat) (l:List Prop),m<k->Fx D k l->Fx (ao D m) k l
 | _,[],_,_=>trivial
 | k,p::l,hm,h=>⟨fun e=>h.1 (by
   have:Nat.beq k m=false:=by rw [bx]; intro a; have:=KF a; omega
   simpa [ao,this] using e),Fx.low (k+1) l (by omega) h.2⟩
theorem Fx.setK {D:Nat->Bool} {p:Prop} (a:p):∀ (m k:Nat) (l:List Prop),Fx D k l->Fx (ao D (k+m)) k (l.set m p)
 | _,_,[],_=>trivial
 | 0,k,q::l,h=>⟨fun _=>a,Fx.low (k+1) l (by omega) h.2⟩
 | m+1,k,q::l,h=>⟨fun e=>h.1 (by
   have:Nat.beq k (k+(m+1))=false:=by rw [bx]; intro f; have:=KF f; omega
   simpa [ao,this] using e),by
   have:=Fx.setK a m (k+1) l h.2
   rwa [show k+1+m=k+(m+1) by omega] at this⟩
theorem Fx.set {D:Nat->Bool} {l:List Prop} (h:Fx D 0 l) (m:Nat) {p:Prop} (a:p):Fx (ao D m) 0 (l.set m p):=by
 have:=Fx.setK a m 0 l h
 rwa [cP] at this
theorem Fx.allK {D:Nat->Bool}:∀ (k:Nat) (l:List Prop),Fx D k l->Y6 D k l->YX l
 | _,[],_,_=>trivial
 | k,_::l,h,hd=>⟨h.1 hd.1,Fx.allK (k+1) l h.2 hd.2⟩
theorem Fx.all {D:Nat->Bool} {l:List Prop} (h:Fx D 0 l) (hd:Y6 D 0 l:=by repeat (first|exact trivial|refine And.intro (by assumption) ?_)):YX l:=Fx.allK 0 l h hd
def abd (P:Program) (t:TypeId):Option (List (Nat × TypeId)):=match P.underlying t with
 | some (.struct fs)=>some (fs.toList.map fun f=>(f.offset,f.type))
 | _=>none
end
end Go.Proofs.YtgllldjiaglkcaaGreatDoor
