/- The row's reading of the arguments gives the reading of this proof; and what a law that returns true owes. -/
import Derived.Test.YtgllldjiaglkcaaGreatDoorZDr1
import Derived.Test.YtgllldjiaglkcaaGreatDoorRows
import Derived.ProofKit
import Derived.ReadAgain
import Derived.Carry
import Derived.Test.YtgllldjiaglkcaaGreatDoorZDrS
import Derived.Test.YtgllldjiaglkcaaGreatDoorZDrF
import Derived.Test.YtgllldjiaglkcaaGreatDoorZDrgz
import Derived.Test.YtgllldjiaglkcaaGreatDoorZDr0
import Derived.Laws.BytesArg
import Derived.Laws.StructEq
import Derived.Laws.Tables
namespace Go.Proofs.YtgllldjiaglkcaaGreatDoor
section
open Go Go.ChangeShapes Go.WideShapes Go.ChangeAt Go.RowKit

def Ju (W:World):ad:=fun b=>W.heap[b]?
section
variable {H:Type} {enc:TypeId × Value->H} {P:Program} {W:World} {sp:Nat->Bool} {held:Bool}
theorem Kk {a:Addr} {v:Value} (h:W.cell? a=some v):∃ b o c E fz,a=⟨b,o,none⟩/\W.heap[b]?=some (.cells c E fz)/\c[o]?=some v:=by
 obtain ⟨b,o,s⟩:=a
 simp only [World.cell?] at h
 split at h
 ·rename_i c E fz hb
  cases s with
  | none=>exact ⟨b,o,c,E,fz,rfl,hb,by simpa using h⟩
  | some s=>simp at h
 ·cases h
theorem Mu {b o k:Nat} {cs:List Value} {c:Array Value} {E:TypeId} {fz:Nat × Nat} (hb:W.heap[b]?=some (.cells c E fz)) (h:W.cells? 0 ⟨b,o,none⟩ k=some cs):aJ c o k=cs:=by
 unfold World.cells? at h
 rw [if_pos (Nat.zero_le _)] at h
 have hl:cs.length=k:=by simpa using mapM_some_length h
 apply List.ext_getElem?
 intro i
 rw [aJ,List.getElem?_take]
 by_cases hi:i<k
 ·rw [if_pos hi,List.getElem?_drop]
  have:=mapM_some_get h i i (by simp [hi])
  rw [<- this,gr]
  simp [World.cell?,hb]
 ·rw [if_neg hi,List.getElem?_eq_none (by omega)]
theorem wx {α:Type} (p:Nat->α->Prop):∀ n:Nat,(∀ i,i<n->∃ t,p i t)->∃ xs:List α,xs.length=n/\∀ i (h:i<xs.length),p i xs[i]
 | 0,_=>⟨[],rfl,fun i h=>by simp at h⟩
 | n+1,h=>by
  obtain ⟨xs,hl,hx⟩:=wx p n fun i hi=>h i (by omega)
  obtain ⟨t,ht⟩:=h n (by omega)
  refine ⟨xs++[t],by simp [hl],fun i hi=>?_⟩
  by_cases e:i<xs.length
  ·rw [List.getElem_append_left e]
   exact hx i e
  ·have:i=xs.length:=by simp at hi; omega
   subst this
   simp only [List.getElem_append_right (Nat.le_refl _),Nat.sub_self,List.getElem_cons_zero]
   rw [hl]
   exact ht
theorem ou {T e:TypeId} {k:Nat} (h:bW P T=some (e,k)):P.underlying T=some (.slice e)/\P.cellsOf e=k:=by
 unfold bW at h
 split at h
 ·rename_i e' he
  rw [Option.map_eq_some_iff] at h
  obtain ⟨i,hi,hx⟩:=h
  simp only [Prod.mk.injEq] at hx
  obtain ⟨rfl,rfl⟩:=hx
  exact ⟨he,by simp [Program.cellsOf,hi]⟩
 ·cases h
theorem NE {α:Type} {R:List Value->α->Prop} {T e:TypeId} {k fuel:Nat} {v:Value} {x:DataW H × List MemPlace} (hu:bW P T=some (e,k)) (hk0:0<k)
  (h:DataW.trod enc P W 0 sp held fuel T [v]=some x) (hel:∀ n cs y,fuel=n+1->DataW.trod enc P W 0 sp held n e cs=some y->∃ t:α,R cs t):∃ xs,RdSl (Ju W) k R v xs:=by
 obtain ⟨hu1,hk⟩:=ou hu
 rcases DataW.trod_slice hu1 h with ⟨hcs,_⟩|⟨a,len,cap,elems,rest,n,hf,hcs,_,_,hl,hc,hlen,hE,_⟩
 ·simp only [List.cons.injEq,and_true] at hcs
  subst hcs
  exact ⟨[],none,0,rfl,Nat.le_refl _,Nat.zero_le _,.inl rfl⟩
 ·simp only [List.cons.injEq,and_true] at hcs
  subst hcs
  have hE':∀ i,i<len->∃ t:α,∃ cs,W.cells? 0 (a.add (i * k)) k=some cs/\R cs t:=by
   intro i hi
   have:=hE i hi
   rw [hk,List.getElem?_eq_getElem (by omega),Option.bind_eq_some_iff] at this
   obtain ⟨cs,h1,h2⟩:=this
   obtain ⟨t,ht⟩:=hel n cs _ hf h2
   exact ⟨t,cs,h1,ht⟩
  obtain ⟨xs,hxl,hxs⟩:=wx _ len hE'
  subst hxl
  refine ⟨xs,some a,cap,rfl,hl,hc,?_⟩
  by_cases h0:xs.length=0
  ·exact .inl (List.eq_nil_of_length_eq_zero h0)
  ·obtain ⟨cs0,h1,_⟩:=hxs 0 (by omega)
   have e0:a.add (0 * k)=a:=by rw [Nat.zero_mul]; simp [Addr.add]
   rw [e0] at h1
   have hc0:∃ u,W.cell? a=some u:=by
    unfold World.cells? at h1
    rw [if_pos (Nat.zero_le _)] at h1
    have hl0:cs0.length=k:=by simpa using mapM_some_length h1
    have:=mapM_some_get h1 0 0 (by simp [hk0])
    rw [List.getElem?_eq_getElem (by omega)] at this
    have e1:a.add 0=a:=by simp [Addr.add]
    rw [e1] at this
    exact ⟨_,this⟩
   obtain ⟨u,hu0⟩:=hc0
   obtain ⟨b,o,c,E,fz,rfl,hb,_⟩:=Kk hu0
   refine .inr ⟨b,o,c,E,fz,rfl,hb,fun i hi=>?_⟩
   obtain ⟨cs,h2,hR⟩:=hxs i hi
   rw [gr] at h2
   rw [Mu hb h2]
   exact hR
end

section
variable {H:Type} {enc:TypeId × Value->H} {W:World} {sp:Nat->Bool} {held:Bool}
theorem four {cs:List Value} (h:cs.length=4):∃ a b c d,cs=[a,b,c,d]:=by
 match cs,h with
 | [a,b,c,d],_=>exact ⟨a,b,c,d,rfl⟩
end

theorem Inv.entry (W:World):Inv W [] [] (Ju W) W:=Inv.start (L:=[]) (by simp) (by simp [bk]) fun b o hb=>⟨hb,by simp [bk]⟩
theorem Inv.same {W W':World} {L:List Item} {S:ad} (h:Inv W [] L S W') (b:Nat) (hb:b<W.heap.size):W'.heap[b]?=W.heap[b]?:=h.old b hb (by simp)
theorem KV {W W':World} {may:MemPlace->Prop} (ho:W'.os=W.os) (hp:W'.output=W.output) (h:∀ b,b<W.heap.size->W'.heap[b]?=W.heap[b]?):W.keptBut W' may:=by
 refine ⟨ho,hp,fun i hi=>?_⟩
 rw [h i hi]
 split
 ·rename_i e1 e2
  rw [e1] at e2
  simp only [Option.some.injEq,Obj.cells.injEq] at e2
  obtain ⟨rfl,rfl,rfl⟩:=e2
  exact ⟨rfl,rfl,rfl,fun _ _=>rfl⟩
 ·rename_i e1 e2
  rw [e1] at e2
  simp only [Option.some.injEq,Obj.map.injEq] at e2
  obtain ⟨rfl,rfl⟩:=e2
  exact .inr ⟨rfl,rfl⟩
 ·rfl
end
section
open Go Go.RowKit
attribute [local irreducible] Run CondV ai az
end
section
open Go Go.RowKit
attribute [local irreducible] Run CondV ai az

mutual
def eqT:T->T->Bool
 | .mk k n s ks,.mk k' n' s' ks'=>decide (k=k') && (decide (n=n') && (decide (s=s') && eqL ks ks'))
def eqL:List T->List T->Bool
 | [],[]=>true
 | t::ts,u::us=>eqT t u && eqL ts us
 | _,_=>false
end
mutual
theorem Jr:∀ a b:T,eqT a b=true↔a=b
 | .mk k n s ks,.mk k' n' s' ks'=>by
  simp only [eqT,Bool.and_eq_true,decide_eq_true_eq,xT ks ks',T.mk.injEq]
theorem xT:∀ a b:List T,eqL a b=true↔a=b
 | [],[]=>by simp [eqL]
 | [],_::_=>by simp [eqL]
 | _::_,[]=>by simp [eqL]
 | t::ts,u::us=>by
  simp only [eqL,Bool.and_eq_true,Jr t u,xT ts us,List.cons.injEq]
end
theorem NL:∀ {a b:List T},a.length≠b.length->eqL a b=false:=by
 intro a b h
 rw [<- Bool.not_eq_true,xT]
 rintro rfl
 exact h rfl
theorem HQ {a b c d e:Value}:∀ (j:Nat) (v:Value),([a,b,c,d]:List Value)[j]?=some v->(#[a,b,c,d,e]:Array Value)[0+j]?=some v
 | 0,_,h|1,_,h|2,_,h|3,_,h=>h
 | j+4,_,h=>by simp at h
end
section
open Go Go.RowKit
attribute [local irreducible] Run CondV ai az
end
section
open Go Go.RowKit
section
variable {P:Program} {w w0:World} {X:List Nat} {L:List Item} {S:ad} {K:Value->World->Prop}
attribute [local irreducible] Run CondV ai az
theorem ML {T:TypeId} {cx cy:Bool} {a b:Int} (hb:b≠0) (hk:K (.int .i64 (a.tmod b)) w):Run P (bN .rem T cx cy (.int .i64 a) (.int .i64 b)) w K:=
 Run.of (by simp [bN,bS,binOp,Op.intDiv,hb]) hk
theorem RA {T:TypeId} {cx cy:Bool} {a b:Int} (hb:b≠0) (hr:-9223372036854775808<=a.tdiv b/\a.tdiv b<=9223372036854775807) (hk:K (.int .i64 (a.tdiv b)) w):Run P (bN .quo T cx cy (.int .i64 a) (.int .i64 b)) w K:=
 Run.of (by simp [bN,bS,binOp,Op.intDiv,hb,IntWalk.i64_in _ hr]) hk
end

section
attribute [local irreducible] Run CondV ai az
end
end
section
open Go Go.RowKit

theorem Part.upd {α:Type} {k:Nat} {R:aN->List Value->α->Prop} {c c':Array Value} {Ls:List aN} {xs:List α} (h:Part k R c Ls xs) {i:Nat} {L':aN} {x:α} (hx:R L' (aJ c' (i * k) k) x)
  (hne:∀ j,j≠i->aJ c' (j * k) k=aJ c (j * k) k):Part k R c' (Ls.set i L') (xs.set i x):=by
 refine ⟨by simp [h.1],fun j h1 h2=>?_⟩
 by_cases e:i=j
 ·subst e
  rw [List.getElem_set_self,List.getElem_set_self]
  exact hx
 ·rw [List.getElem_set_ne e,List.getElem_set_ne e,hne j fun e'=>e e'.symm]
  exact h.2 j (by simpa using h1) (by simpa using h2)
section
attribute [local irreducible] Run CondV ai az
end
end
section
open Go Go.RowKit

section
attribute [local irreducible] Run CondV ai az
theorem TrC.parts {L:aN} {cs:List Value} {c:C} (h:TrC L cs c):∃ kv ks L1 L2,cs=[.int .i64 c.head.kind,.int .i64 c.head.n,.string c.head.name,kv,ks]/\L=L1++L2/\TrSl 4 TrT L1 kv c.head.kids/\TrSl 4 TrT L2 ks c.body:=by
 obtain ⟨hd,ks,L1,L2,rfl,rfl,h1,h2⟩:=h
 obtain ⟨kv,rfl,_,_,_,hkT⟩:=TrT.iff.1 h1
 exact ⟨kv,ks,L1,L2,rfl,rfl,hkT,h2⟩
end
end
section
open Go Go.RowKit

section
attribute [local irreducible] Run CondV ai az
end
end
section
open Go Go.RowKit

theorem Dn:Tryz.prog.underlying cd=some (.struct (Tryz.prog.fieldsOf cd)):=by kernel_rfl
theorem IK:Tryz.prog.stoodInHeld cd=false:=by kernel_rfl
theorem FK:Tryz.prog.eqGuardType Tryz.prog.depth cd=false:=by kernel_rfl
theorem mq {P:Program} {w:World} {T:TypeId} {cs:Array Value} {off:Nat} {v:Value} (h:ib P T=true) (hx:cs[off]?=some v):(part T cs off).run P w=.ok v w:=by
 simp [part,(uN (w:=w) h).1,hx]
theorem LJ {w:World} (s s':ByteArray) (n n':Int) :
  (Op.equalIn 10000 cd (.agg #[.string s,.int .i64 n]) (.agg #[.string s',.int .i64 n'])).run Tryz.prog w=.ok (decide (s=s') && decide (n=n')) w:=by
 rw [show (10000:Nat)=9999+1 from rfl,run_equalIn_struct w 9999 cd _ _ Dn IK]
 have hf:(Tryz.prog.fieldsOf cd).toList=[(Tryz.prog.fieldsOf cd)[0]!,(Tryz.prog.fieldsOf cd)[1]!]:=by kernel_rfl
 have h0:((Tryz.prog.fieldsOf cd)[0]!).type=eN:=by kernel_rfl
 have h1:((Tryz.prog.fieldsOf cd)[1]!).type=bE:=by kernel_rfl
 have o0:((Tryz.prog.fieldsOf cd)[0]!).offset=0:=by kernel_rfl
 have o1:((Tryz.prog.fieldsOf cd)[1]!).offset=1:=by kernel_rfl
 have n0:((Tryz.prog.fieldsOf cd)[0]!).name≠"_" := by decide +kernel
 have n1:((Tryz.prog.fieldsOf cd)[1]!).name≠"_" := by decide +kernel
 rw [hf]
 have e0:(Op.equalIn (9998+1) eN (.string s) (.string s')).run Tryz.prog w=.ok (decide (s=s')) w:=by
  rw [run_equalIn_string w 9998 eN s s' aF,sc]
 have e1:(Op.equalIn (9998+1) bE (.int .i64 n) (.int .i64 n')).run Tryz.prog w=.ok (decide (n=n')) w:=by
  rw [run_equalIn_int w 9998 bE .i64 .i64 n n' fl]; rfl
 rw [show (9999:Nat)=9998+1 from rfl]
 generalize hg0:(Tryz.prog.fieldsOf cd)[0]! = g0 at *
 generalize hg1:(Tryz.prog.fieldsOf cd)[1]! = g1 at *
 simp only [Op.eqFields,n0,n1,ne_eq,not_false_eq_true,if_true,Sem.run_bind,h0,h1,o0,o1]
 rw [mq aL (v:=.string s) rfl,Result.andThen_ok,mq aL (v:=.string s') rfl,Result.andThen_ok,e0,Result.andThen_ok]
 cases decide (s=s') with
 | false=>rfl
 | true=>
  simp only [Bool.not_true,Bool.false_eq_true,if_false,Sem.run_bind]
  rw [mq aE (v:=.int .i64 n) rfl,Result.andThen_ok,mq aE (v:=.int .i64 n') rfl,Result.andThen_ok,e1,Result.andThen_ok]
  cases decide (n=n') with
  | false=>rfl
  | true=>rfl
section
variable {w:World} {K:Value->World->Prop}
attribute [local irreducible] Run
theorem Lm {cx cy:Bool} {s s':ByteArray} {n n':Int} :
  (bN .eql cd cx cy (.agg #[.string s,.int .i64 n]) (.agg #[.string s',.int .i64 n'])).run Tryz.prog w=.ok (.value (.bool (decide (s=s') && decide (n=n')))) w:=by
 unfold bN
 rw [Sem.run_bind,run_eqGuard_agg w .eql cd _ _ _ _ FK,Result.andThen_ok,Sem.run_bind,run_eql_struct,LJ,Result.andThen_ok,Result.andThen_ok]
 rfl
theorem AY {s:ByteArray} {n:Int}:(bJ cd [(0,.string s),(1,.int .i64 n)]).run Tryz.prog w=.ok (.value (.agg #[.string s,.int .i64 n])) w:=by
 unfold bJ
 rw [Sem.run_bind,run_build w cd _ #[.string s,.int .i64 n] (by kernel_rfl),Result.andThen_ok]
 rfl
theorem Pn {cx cy:Bool} {s s':ByteArray} {n n':Int} (hk:K (.bool (decide (s=s') && decide (n=n'))) w):Run Tryz.prog (bN .eql cd cx cy (.agg #[.string s,.int .i64 n]) (.agg #[.string s',.int .i64 n'])) w K:=
 Run.of Lm hk
theorem F2 {s:ByteArray} {n:Int} (hk:K (.agg #[.string s,.int .i64 n]) w):Run Tryz.prog (bJ cd [(0,.string s),(1,.int .i64 n)]) w K:=
 Run.of AY hk
end

attribute [local irreducible] Run CondV ai az
structure Pd where
 name:ByteArray
 arity:Int
deriving DecidableEq
def Pd.cells (x:Pd):List Value:=[.string x.name,.int .i64 x.arity]
def bU (t:T):Pd:=⟨t.name,t.kids.length⟩
def kB (x y:Pd):Bool:=decide (x.name=y.name) && decide (x.arity=y.arity)
theorem lj (x y:Pd):kB x y=decide (x=y):=by
 obtain ⟨a,b⟩:=x
 obtain ⟨c,d⟩:=y
 rw [kB,Bool.eq_iff_iff]
 simp
theorem sZ {t:T} {S:ad} {cs:List Value} (h:RdT S cs t):Pure Tryz.prog L9 [.agg cs.toArray] S (.agg (bU t).cells.toArray):=by
 intro w hI
 obtain ⟨kv,rfl,_,_,hs,hks⟩:=RdT.iff.1 h
 obtain ⟨k,n,s,ks⟩:=t
 simp only [T.name,T.kids,T.kind,T.n] at hs hks ⊢
 refine BX.2 ?_
 dsimp only[BX,aD]
 refine bt hI fun b1 w' hI=>?_
 refine aM hI L0 fun b2 w' hI=>?_
 refine ae hI 0 rfl aR aL rfl ?_
 refine ae hI 0 rfl au aj rfl ?_
 refine aG hks ah ?_
 refine F2 ?_
 refine av hI 1 rfl zZ rfl rfl (by simp [Value.oneCell']) fun w' hI=>?_
 refine bl hI 1 zZ rfl rfl ?_
 exact done hI rfl
def fM (f:C->Bool):List C->Nat->List Int
 | [],_=>[]
 | c::cs,k=>if f c=true then (k:Int)::fM f cs (k+1) else fM f cs (k+1)
theorem yn (f:C->Bool):∀ (p:List C) (k:Nat) (n:Int),n∈fM f p k->∃ i:Nat,(k:Int)<=n/\n=k+i/\∃ h:i<p.length,f p[i]=true
 | [],k,n,h=>by simp [fM] at h
 | c::cs,k,n,h=>by
  have hrec:n∈fM f cs (k+1)->∃ i:Nat,(k:Int)<=n/\n=k+i/\∃ h:i<(c::cs).length,f (c::cs)[i]=true:=by
   intro h
   obtain ⟨i,h1,h2,h3,h4⟩:=yn f cs (k+1) n h
   exact ⟨i+1,by omega,by omega,by simpa using h3,by simpa using h4⟩
  rw [fM] at h
  split at h
  ·rcases List.mem_cons.1 h with rfl|h
   ·exact ⟨0,by omega,by omega,by simp,by simpa using ‹f c=true›⟩
   ·exact hrec h
  ·exact hrec h
theorem pH (f:C->Bool):∀ (p:List C) (k:Nat),(fM f p k).length<=p.length
 | [],k=>by simp [fM]
 | c::cs,k=>by
  have:=pH f cs (k+1)
  rw [fM]
  split <;> simp <;> omega
end
section
open Go Go.RowKit
attribute [local irreducible] Run CondV ai az

theorem Hw (f:C->Bool) (p:List C) (k:Nat) (h:k<p.length) (l:List Int):(if f p[k]=true then l++[(k:Int)] else l)++fM f (p.drop (k+1)) (k+1)=l++fM f (p.drop k) k:=by
 rw [List.drop_eq_getElem_cons h,fM]
 split
 ·rw [List.append_assoc]; rfl
 ·rfl

theorem uI {p:List C} {S:ad} {v:Value} (x:Pd) (h:RdSl S 5 (RdC S) v p) (hp:p.length<=2000000):Tri Tryz.prog yd [v,.agg x.cells.toArray] [] S (MG S (fM (fun c=>kB (bU c.head) x) p 0)):=by
 intro w hI
 obtain ⟨xs,xn⟩:=x
 refine mQ.2 ?_
 dsimp only[mQ,aX]
 refine bt hI fun b3 w' hI=>?_
 refine aG h aP ?_
 refine ⟨fun i t w'=>∃ (k:Nat) (l:List Int),k<=p.length/\i=.int .i64 k/\l++fM (fun c=>kB (bU c.head) ⟨xs,xn⟩) (p.drop k) k=fM (fun c=>kB (bU c.head) ⟨xs,xn⟩) p 0/\l.length<=k/\
   Inv w [] [.blk b3 (.cells #[.string xs,.int .i64 xn] cd),dq t l] S w',fun i _ _=>p.length - (intOf i).toNat,⟨0,[],Nat.zero_le _,rfl,rfl,Nat.le_refl _,hI.rowNil bE 1⟩,?_⟩
 intro t10 _ t5 _ _ _ _ t19 t18 t17 t16 t15 _ _ _ _ _ _ w'
 rintro ⟨k,l,hk,rfl,hrel,hl,hI⟩
 refine bI ?_
 refine aI (fun hki=>?_) (fun hki=>?_)
 ·have hk':k<p.length:=by omega
  refine ⟨fun t w'=>Inv w [] [.blk b3 (.cells #[.string xs,.int .i64 xn] cd),dq t (if kB (bU p[k].head) ⟨xs,xn⟩=true then l++[(k:Int)] else l)] S w',?_,?_⟩
  ·refine ci hI h aP aY hk' (fun _ _=>RdC.length) fun cs hcs=>?_
   obtain ⟨hd,ks,rfl,h1,h2⟩:=hcs
   have h1':=h1
   obtain ⟨kv,rfl,_,_,hs,hks⟩:=RdT.iff.1 h1
   have hkv:kv.oneCell'=true/\ks.oneCell'=true:=by
    obtain ⟨a,cap,rfl,_⟩:=hks
    obtain ⟨a,cap,rfl,_⟩:=h2
    exact ⟨rfl,rfl⟩
   refine aM hI cZ fun b7 w' hI=>?_
   refine av hI 2 rfl aY rfl rfl (by
    intro u hu
    have hu':u∈([.int .i64 p[k].head.kind,.int .i64 p[k].head.n,.string p[k].head.name,kv,ks]:List Value):=hu
    simp at hu'
    rcases hu' with rfl|rfl|rfl|rfl|rfl <;> first|rfl|exact hkv.1|exact hkv.2) fun w' hI=>?_
   have hI:Inv w [] [.blk b3 (.cells #[.string xs,.int .i64 xn] cd),dq t5 l,.blk b7 (.cells #[.int .i64 p[k].head.kind,.int .i64 p[k].head.n,.string p[k].head.name,kv,ks] af)] S w':=hI
   refine ⟨fun D sn EX rl B8 JU w_=>Fx D 0 [JU=.pointer (some ⟨b7,0,none⟩),B8=.agg #[.int .i64 p[k].head.kind,.int .i64 p[k].head.n,.string p[k].head.name,kv],rl=.agg #[.string p[k].head.name,.int .i64 p[k].head.kids.length],EX=.agg #[.string xs,.int .i64 xn],sn=.bool (kB (bU p[k].head) ⟨xs,xn⟩)]/\Inv w [] [.blk b3 (.cells #[.string xs,.int .i64 xn] cd),dq t5 l,.blk b7 (.cells #[.int .i64 p[k].head.kind,.int .i64 p[k].head.n,.string p[k].head.name,kv,ks] af)] S w_,⟨Fx.nil _ _,hI.draw⟩,⟨?_,?_,?_,?_,?_,trivial⟩,?_⟩
   all_goals (intro D bx; intros; rename_i sn EX rl B8 JU w_ hA_; have hF_:=hA_.1; obtain ⟨⟨cr,cq,ct,cu,cz,_⟩,hI⟩:=hA_)
   ·refine aB bM ?_
    exact ⟨hF_.set 0 rfl,hI⟩
   ·obtain rfl:=cr ‹_›
    refine dQ hI 2 [.int .i64 p[k].head.kind,.int .i64 p[k].head.n,.string p[k].head.name,kv] ac rfl rfl HQ ?_
    exact ⟨hF_.set 1 rfl,hI⟩
   ·obtain rfl:=cq ‹_›
    refine Run.callPure Ca BP hI (sZ h1') fun w_ hI=>?_
    exact ⟨hF_.set 2 rfl,hI⟩
   ·refine aA hI 0 zZ rfl rfl ?_
    exact ⟨hF_.set 3 rfl,hI⟩
   ·obtain rfl:=ct ‹_›
    obtain rfl:=cu ‹_›
    refine Pn ?_
    exact ⟨hF_.set 4 rfl,hI⟩
   obtain ⟨rfl,rfl,rfl,rfl,rfl,_⟩:=hF_.all
   clear hF_ cr cq ct cu cz
   refine aw (fun hb=>?_) (fun hb=>?_)
   ·refine dD hI py rfl (by omega) (by omega) fun b w' hI=>?_
    refine dn hI 1 (k:=1) [.int .i64 k] py (by omega) rfl rfl ?_ ?_ (by omega) (by omega) fun v' w' hI=>?_
    ·intro j u hj
     rw [hI.cellL (i:=3) rfl]
     match j with
     | 0=>simpa [Value.cells] using hj
     | j+1=>simp at hj
    ·simp [Value.oneCell']
    ·rw [vj] at hI
     have hI:=hI.pick [true,true,false,false]
     rw [if_pos hb]
     have e:Item.row v' bE 1 (l.length+1) (ints (l++[(k:Int)]))=dq v' (l++[(k:Int)]):=by simp [dq]
     rw [show List.length l+1=l.length+1 from rfl,e] at hI
     exact hI
   ·rw [if_neg (by rw [hb]; decide)]
    exact hI.pick [true,true,false]
  intro t5 _ _ _ _ _ _ _ _ _ _ _ _ _ _ w' hI
  refine bq (by omega) ?_
  refine ⟨⟨k+1,_,hk',rfl,?_,?_,hI⟩,by simp [intOf]; omega⟩
  ·rw [Hw (fun c=>kB (bU c.head) ⟨xs,xn⟩) p k hk' l,hrel]
  ·split
   ·simp; omega
   ·omega
 ·have:k=p.length:=by omega
  subst this
  rw [List.drop_length,fM,List.append_nil] at hrel
  subst hrel
  exact ⟨_,_,_,rfl,hI.pick [false,true],Ext.refl _ _ _,rfl,rfl⟩
end
section
open Go Go.RowKit
attribute [local irreducible] Run CondV ai az

def yI (l:List Pd) (x:Pd):Bool:=l.any fun y=>kB x y
def jr (l:List Pd) (x:Pd):List Pd:=if yI l x=true then l else l++[x]
end
section
open Go Go.RowKit

theorem Inv.lendAll {w0 w:World} {X:List Nat} {A:List Item} (M:aN) {S:ad} (h:Inv w0 X (A++aV M) S w) :
  ∃ S',Sle S S'/\Ins S' M/\Inv w0 X A S' w/\∀ B w',Inv w0 X B S' w'->Inv w0 X (B++aV M) S w':=by
 obtain ⟨S',h1,h2,h3,h4⟩:=Inv.publishAll M h
 have hnd:=h.nd
 rw [bm,List.nodup_append] at hnd
 refine ⟨S',h2,h3,h1,fun B w' hB=>⟨hB.size,hB.os,hB.tape,hB.output,hB.old,fun it hit=>?_,?_,fun b hb=>?_,fun b o hb=>⟨(hB.pub b o (h2 b o hb)).1,fun hb'=>?_⟩⟩⟩
 ·rcases List.mem_append.1 hit with hit|hit
  ·exact hB.its it hit
  ·obtain ⟨p,hp,rfl⟩:=List.mem_map.1 hit
   exact (hB.pub _ _ (h3 p hp)).1
 ·rw [bm,List.nodup_append]
  refine ⟨hB.nd,hnd.2.1,fun a ha b hb e=>?_⟩
  subst e
  obtain ⟨p,hp,rfl⟩:=fx.1 hb
  exact (hB.pub _ _ (h3 p hp)).2 ha
 ·rw [bm] at hb
  rcases List.mem_append.1 hb with hb|hb
  ·exact hB.new b hb
  ·exact h.new b (by rw [bm]; exact List.mem_append_right _ hb)
 ·rw [bm] at hb'
  rcases List.mem_append.1 hb' with hb'|hb'
  ·exact (hB.pub b o (h2 b o hb)).2 hb'
  ·exact (h.pub b o hb).2 (by rw [bm]; exact List.mem_append_right _ hb')
theorem Inv.openRow {w0 w:World} {X:List Nat} {A:List Item} {S:ad} {v:Value} {e:TypeId} {k n:Nat} {xs:List Value} (h:Inv w0 X (A++[.row v e k n xs]) S w) :
  xs.length=n * k/\((v=.slice none 0 0/\n=0) ∨ ∃ g cap cur,v=.slice (some ⟨g,0,none⟩) n cap/\n<=cap/\cap<=maxLen/\cur.size=cap * k/\cur.toList.take (n * k)=xs/\Inv w0 X (A++[.blk g (.cells cur e)]) S w):=by
 have hm:w.ownsRow 0 e k v n xs:=h.its (.row v e k n xs) (by simp)
 obtain ⟨hl,hm⟩:=hm
 refine ⟨hl,?_⟩
 rcases hm with hn|⟨g,cap,cur,rfl,_,hg,hnc,hcm,hcs,ht⟩
 ·exact .inl hn
 ·have hf:bk (A++[Item.blk g (.cells cur e)])=bk (A++[Item.row (.slice (some ⟨g,0,none⟩) n cap) e k n xs]):=by
   simp [bk,Item.foot,Value.ownBlock]
  refine .inr ⟨g,cap,cur,rfl,hnc,hcm,hcs,ht,h.size,h.os,h.tape,h.output,h.old,fun it hit=>?_,by rw [hf]; exact h.nd,by rw [hf]; exact h.new,by rw [hf]; exact h.pub⟩
  rcases List.mem_append.1 hit with hit|hit
  ·exact h.its it (List.mem_append_left _ hit)
  ·simp at hit
   subst hit
   exact hg
theorem Inv.closeRow {w0 w:World} {X:List Nat} {A:List Item} {S:ad} {g cap k n:Nat} {cur:Array Value} {e:TypeId} (h:Inv w0 X (A++[.blk g (.cells cur e)]) S w) (hn:n<=cap) (hc:cap<=maxLen) (hs:cur.size=cap * k) :
  Inv w0 X (A++[.row (.slice (some ⟨g,0,none⟩) n cap) e k n (cur.toList.take (n * k))]) S w:=by
 have hg:w.heap[g]?=some (.cells cur e):=h.its (.blk g (.cells cur e)) (by simp)
 have hf:bk (A++[Item.row (.slice (some ⟨g,0,none⟩) n cap) e k n (cur.toList.take (n * k))])=bk (A++[Item.blk g (.cells cur e)]):=by
  simp [bk,Item.foot,Value.ownBlock]
 refine ⟨h.size,h.os,h.tape,h.output,h.old,fun it hit=>?_,by rw [hf]; exact h.nd,by rw [hf]; exact h.new,by rw [hf]; exact h.pub⟩
 rcases List.mem_append.1 hit with hit|hit
 ·exact h.its it (List.mem_append_left _ hit)
 ·simp at hit
  subst hit
  refine ⟨?_,.inr ⟨g,cap,cur,rfl,Nat.zero_le _,hg,hn,hc,hs,rfl⟩⟩
  rw [List.length_take,Array.length_toList,hs]
  exact Nat.min_eq_left (Nat.mul_le_mul_right k hn)

section
attribute [local irreducible] Run CondV ai az
end
end
section
open Go Go.RowKit

structure Grown {α:Type} (k:Nat) (R:aN->List Value->α->Prop) (Ls:List aN) (css:List (List Value)) (ys:List α):Prop where
 hL:Ls.length=ys.length
 hc:css.length=ys.length
 hk:∀ cs∈css,cs.length=k
 hR:∀ i (h:i<ys.length) (h1:i<Ls.length) (h2:i<css.length),R Ls[i] css[i] ys[i]
theorem Grown.nil {α:Type} (k:Nat) (R:aN->List Value->α->Prop):Grown k R [] [] ([]:List α):=⟨rfl,rfl,by simp,fun i h=>by simp at h⟩
theorem Grown.snoc {α:Type} {k:Nat} {R:aN->List Value->α->Prop} {Ls:List aN} {css:List (List Value)} {ys:List α} (h:Grown k R Ls css ys) {L:aN} {cs:List Value} {y:α} (hR:R L cs y) (hl:cs.length=k) :
  Grown k R (Ls++[L]) (css++[cs]) (ys++[y]):=by
 refine ⟨by simp [h.hL],by simp [h.hc],fun c hc=>?_,fun i h0 h1 h2=>?_⟩
 ·rcases List.mem_append.1 hc with hc|hc
  ·exact h.hk c hc
  ·simp at hc; subst hc; exact hl
 ·have e1:=h.hL
  have e2:=h.hc
  by_cases hi:i<ys.length
  ·rw [List.getElem_append_left (by omega),List.getElem_append_left (by omega),List.getElem_append_left hi]
   exact h.hR i hi (by omega) (by omega)
  ·have:i=ys.length:=by simp at h0; omega
   subst this
   rw [List.getElem_append_right (by omega),List.getElem_append_right (by omega),List.getElem_append_right (by omega)]
   simp only [e1,e2,Nat.sub_self,List.getElem_cons_zero]
   exact hR
theorem gF (k:Nat):∀ (css:List (List Value)) (i:Nat) (_:∀ cs∈css,cs.length=k) (h:i<css.length),(css.flatten.drop (i * k)).take k=css[i]
 | [],i,_,h=>by simp at h
 | c::css,0,hk,_=>by
  have:=hk c (List.mem_cons_self ..)
  rw [List.flatten_cons,Nat.zero_mul,List.drop_zero,List.take_append_of_le_length (by omega),List.take_of_length_le (by omega)]
  rfl
 | c::css,i+1,hk,h=>by
  have:=hk c (List.mem_cons_self ..)
  rw [List.flatten_cons,Nat.succ_mul,Nat.add_comm,<- List.drop_drop,List.drop_left' this]
  exact gF k css i (fun cs hc=>hk cs (List.mem_cons_of_mem _ hc)) (by simpa using h)
abbrev aC (v:Value) (e:TypeId) (k:Nat) (css:List (List Value)):Item:=.row v e k css.length css.flatten
theorem Inv.rowTree {α:Type} {w0 w:World} {X:List Nat} {A:List Item} {S:ad} {v:Value} {e:TypeId} {k:Nat} {R:aN->List Value->α->Prop} {Ls:List aN} {css:List (List Value)} {ys:List α}
  (h:Inv w0 X (A++(aC v e k css::aV Ls.flatten)) S w) (hg:Grown k R Ls css ys):∃ L,TrSl k R L v ys/\Inv w0 X (A++aV L) S w:=by
 have hp:List.Perm ((A++aV Ls.flatten)++[aC v e k css]) (A++(aC v e k css::aV Ls.flatten)):=by
  rw [List.append_assoc]
  exact List.Perm.append_left _ List.perm_append_comm
 obtain ⟨hl,ho⟩:=(h.perm hp).openRow
 have hcy:=hg.hc
 have hLy:=hg.hL
 rcases ho with ⟨rfl,h0⟩|⟨g,cap,cur,rfl,hnc,hcm,hcs,ht,hI⟩
 ·have:ys=[]:=List.eq_nil_of_length_eq_zero (by omega)
  subst this
  refine ⟨[],TrSl.nil (by simp [maxLen]),?_⟩
  simpa [aV] using h.sub (List.sublist_append_left _ _)
 ·by_cases hy:ys=[]
  ·subst hy
   have:css=[]:=List.eq_nil_of_length_eq_zero (by simpa using hcy)
   subst this
   refine ⟨[],TrSl.nil hcm,?_⟩
   simpa [aV] using h.sub (List.sublist_append_left _ _)
  ·refine ⟨(g,.cells cur e)::Ls.flatten,⟨_,cap,by rw [hcy],by omega,hcm,.inr ⟨g,cur,e,Ls,rfl,rfl,hLy,by omega,fun i h1 h2=>?_⟩⟩,?_⟩
   ·have hik:i * k+k<=css.length * k:=by rw [<- Nat.succ_mul]; exact Nat.mul_le_mul_right k (by omega)
    have:=gF k css i hg.hk (by omega)
    rw [<- ht,List.drop_take,List.take_take,Nat.min_eq_left (by omega)] at this
    rw [aJ,this]
    exact hg.hR i h1 h2 (by omega)
   ·refine hI.perm ?_
    rw [List.append_assoc]
    exact List.Perm.append_left _ (List.perm_append_comm (l₁:=[Item.blk g (.cells cur e)]))
theorem dP (v:Value) (e:TypeId) (k:Nat) (css:List (List Value)) (cs:List Value):Item.row v e k (css.length+1) (css.flatten++cs)=aC v e k (css++[cs]):=by
 simp [aC]
section
variable {P:Program} {w w0:World} {X:List Nat} {L:List Item} {S:ad} {K:Value->World->Prop}
attribute [local irreducible] Run CondV ai az
theorem cR (h:Inv w0 X L S w) {T ty e:TypeId} {k by_:Nat} {z v:Value} {cs:List Bool} {css:List (List Value)} (i:Nat) (xs:List Value)
  (hT:kz P T=some (e,k,by_,z)) (hk0:0<k) (hk24:k<=65536) (hi:L[i]?=some (aC v e k css)) (hl:xs.length=k) (h1:∀ u∈xs,u.oneCell'=true) (hfit:css.length+1<=4294967296) (hby:by_<=32768)
  {K:Value->Value->World->Prop} (hk:∀ v' w',Inv w0 X (L.set i (aC v' e k (css++[xs]))) S w'->K (.slice (some ⟨w.heap.size,0,none⟩) 1 1) v' w') :
  Run P (bo T 1 [(0,.agg xs.toArray)]) w fun u w'=>Run P (bp .append #[T,T] ty cs [v,u]) w' (K u):=by
 refine pI h hT (by simp [Value.cells,hl]) hk24 hk0 fun w' hI=>?_
 have hil:i<L.length:=(List.getElem?_eq_some_iff.1 hi).1
 refine dn hI i xs hT hk0 (by rw [List.getElem?_append_left hil]; exact hi) (by omega) (m:=1) (o:=0) ?_ h1 hfit hby fun v' w' hI=>?_
 ·intro j u hj
  rw [hI.cellL (i:=L.length) (by rw [List.getElem?_append_right (Nat.le_refl _),Nat.sub_self]; rfl)]
  rw [Nat.zero_add]
  simpa [Value.cells] using hj
 ·refine hk _ _ ?_
  rw [<- dP]
  rw [List.set_append_left _ _ hil] at hI
  exact hI.sub (List.sublist_append_left _ _)
end

section
attribute [local irreducible] Run CondV ai az
theorem Ao {ts:List T} (ih:∀ t∈ts,∀ (S:ad) (cs:List Value),RdT S cs t->wT t<=1048576->Tri Tryz.prog JL [.agg cs.toArray] [] S (Ck S t))
  {S:ad} {v:Value} (h:RdSl S 4 (RdT S) v ts) (hw:ts.length+wL ts<=1048576):Tri Tryz.prog wK [v] [] S (Gw 4 TrT S ts):=by
 intro w hI
 refine te.2 ?_
 dsimp only[te,aD]
 refine aG h ah ?_
 refine ⟨fun i t w'=>∃ (k:Nat) (Ls:List aN) (css:List (List Value)),k<=ts.length/\i=.int .i64 k/\Grown 4 TrT Ls css (ts.take k)/\Inv w [] (aC t ab 4 css::aV Ls.flatten) S w',
  fun i _ _=>ts.length - (intOf i).toNat,⟨0,[],[],Nat.zero_le _,rfl,Grown.nil _ _,hI.rowNil ab 4⟩,?_⟩
 intro t8 _ t3 _ _ _ _ _ _ _ _ _ w'
 rintro ⟨k,Ls,css,hk,rfl,hg,hI⟩
 refine bI ?_
 refine aI (fun hki=>?_) (fun hki=>?_)
 ·have hk':k<ts.length:=by omega
  have htl:(ts.take k).length=k:=by simp; omega
  have hcl:=hg.hc
  refine ci hI h ah ac hk' (fun _ _=>RdT.length) fun cs hcs=>?_
  have hm:=List.getElem_mem hk'
  have hwm:=iv hm
  have hlc:=hcs.length
  refine aM hI aU fun b6 w' hI=>?_
  have hI:=hI.perm (M:=.blk b6 _::(aC t3 ab 4 css::aV Ls.flatten)) (List.perm_append_comm (l₁:=[_]))
  refine av hI 0 rfl ac (by simpa using hlc) rfl (by simpa using hcs.one) fun w' hI=>?_
  refine aA hI 0 ac rfl (by simpa using hlc) ?_
  have hI:Inv w [] (aC t3 ab 4 css::aV Ls.flatten) S w':=hI.sub (List.sublist_cons_self _ _)
  refine Run.call0 GU FJ hI (ih _ hm S cs hcs (by omega)) fun v' I' S' w'=>?_
  rintro ⟨rfl,cs',L,rfl,rfl,hT⟩ _ hI
  refine cR hI 0 cs' bu (by omega) (by omega) rfl hT.length hT.one (by omega) (by omega) fun v' w' hI=>?_
  refine bq (by omega) ?_
  refine ⟨⟨k+1,Ls++[L],css++[cs'],hk',rfl,?_,?_⟩,by simp [intOf]; omega⟩
  ·rw [List.take_succ_eq_append_getElem hk']
   exact hg.snoc hT hT.length
  ·simp only [List.flatten_append,List.flatten_cons,List.flatten_nil,List.append_nil,cO]
   exact hI
 ·have:k=ts.length:=by omega
  subst this
  rw [List.take_length] at hg
  obtain ⟨L,hT,hI⟩:=Inv.rowTree (A:=[]) hI hg
  exact ⟨_,_,_,rfl,hI,Ext.refl _ _ _,rfl,_,rfl,hT⟩
theorem Cc:∀ (t:T) (S:ad) (cs:List Value),RdT S cs t->wT t<=1048576->Tri Tryz.prog JL [.agg cs.toArray] [] S (Ck S t):=by
 refine T.ind fun k n s ks ih S cs h hw=>?_
 intro w hI
 obtain ⟨kv,rfl,h1,h2,hs,hks⟩:=RdT.iff.1 h
 simp only [T.name,T.kids,T.kind,T.n] at h1 h2 hs hks ⊢
 simp only [wT] at hw
 refine FB.2 ?_
 dsimp only[FB,aD]
 refine bt hI fun b1 w' hI=>?_
 refine aM hI aU fun b2 w' hI=>?_
 refine ae hI 0 rfl au aj rfl ?_
 refine Run.call0 lP l7 hI (Ao ih hks (by omega)) fun v' I' S' w'=>?_
 rintro ⟨rfl,L,rfl,hT⟩ _ hI
 have hv:v'.cells=#[v']/\v'.oneCell'=true:=by obtain ⟨a,cap,rfl,_⟩:=hT; exact ⟨rfl,rfl⟩
 refine cn hI 0 rfl au aj rfl hv.1 hv.2 fun w' hI=>?_
 refine aA hI 0 ac rfl rfl ?_
 refine av hI 1 rfl ac rfl rfl ?_ fun w' hI=>?_
 ·intro u hu
  have hu':u∈([.int .i64 k,.int .i64 n,.string s,v']:List Value):=hu
  simp at hu'
  rcases hu' with rfl|rfl|rfl|rfl <;> first|rfl|exact hv.2
 refine bl hI 1 ac rfl rfl ?_
 refine ⟨_,_,_,rfl,hI.sub (List.sublist_append_right [_,_] (aV L)),Ext.refl _ _ _,rfl,[.int .i64 k,.int .i64 n,.string s,v'],L,rfl,rfl,TrT.iff.2 ⟨v',rfl,h1,h2,hs,hT⟩⟩
theorem qz {ts:List T} {S:ad} {v:Value} (h:RdSl S 4 (RdT S) v ts) (hw:ts.length+wL ts<=1048576):Tri Tryz.prog wK [v] [] S (Gw 4 TrT S ts):=
 Ao (fun t _=>Cc t) h hw
end
end
section
open Go Go.RowKit
section
variable {w:World} {K:Value->World->Prop}
attribute [local irreducible] Run
theorem Bu {a b:Int} {s:ByteArray} {k v:Value} (hv:∃ p n m,v=.slice p n m) (hk:K (.agg #[.int .i64 a,.int .i64 b,.string s,k,v]) w):Run Tryz.prog (bJ af [(0,.agg #[.int .i64 a,.int .i64 b,.string s,k]),(1,v)]) w K:=by
 obtain ⟨p,n,m,rfl⟩:=hv
 refine Run.of (v:=.agg #[.int .i64 a,.int .i64 b,.string s,k,.slice p n m]) (w':=w) ?_ hk
 unfold bJ
 rw [Sem.run_bind,run_build w af _ #[.int .i64 a,.int .i64 b,.string s,k,.slice p n m] (by kernel_rfl),Result.andThen_ok]
 rfl
theorem kl {a b:Int} {s:ByteArray} {k:Value} (hk:K (.agg #[.int .i64 a,.int .i64 b,.string s,k,.slice none 0 0]) w):Run Tryz.prog (bJ af [(0,.agg #[.int .i64 a,.int .i64 b,.string s,k])]) w K:=by
 refine Run.of (v:=.agg #[.int .i64 a,.int .i64 b,.string s,k,.slice none 0 0]) (w':=w) ?_ hk
 unfold bJ
 rw [Sem.run_bind,run_build w af _ #[.int .i64 a,.int .i64 b,.string s,k,.slice none 0 0] (by kernel_rfl),Result.andThen_ok]
 rfl
theorem nK {a b:Int} {s:ByteArray} (hk:K (.agg #[.int .i64 a,.int .i64 b,.string s,.slice none 0 0]) w):Run Tryz.prog (bJ ab [(0,.int .i64 a),(1,.int .i64 b),(2,.string s)]) w K:=by
 refine Run.of (v:=.agg #[.int .i64 a,.int .i64 b,.string s,.slice none 0 0]) (w':=w) ?_ hk
 unfold bJ
 rw [Sem.run_bind,run_build w ab _ #[.int .i64 a,.int .i64 b,.string s,.slice none 0 0] (by kernel_rfl),Result.andThen_ok]
 rfl
end
section
attribute [local irreducible] Run CondV ai az
def kU (B B2 B2':Item) (M1 M2:aN) (d2 d5 d7:Bool):List Item:=B::(match d7 with|true=>B2'|false=>B2)::((match d2 with|true=>aV M1|false=>[])++(match d5 with|true=>aV M2|false=>[]))
theorem xf {c:C} {S:ad} {cs:List Value} (h:RdC S cs c) (hw:wC c<=1048576):Tri Tryz.prog Ba [.agg cs.toArray] [] S (Oq S c):=by
 intro w hI
 obtain ⟨hd,ks,rfl,h1,h2⟩:=h
 have h1':=h1
 obtain ⟨kv,rfl,g1,g2,g3,g4⟩:=RdT.iff.1 h1
 unfold wC at hw
 refine nY.2 ?_
 dsimp only[nY,aD]
 refine bt hI fun b1 w' hI=>?_
 refine aM hI cZ fun b2 w' hI=>?_
 have hI:Inv w [] [.blk b1 (.cells #[.int .i64 c.head.kind,.int .i64 c.head.n,.string c.head.name,kv,ks] af),.blk b2 (.cells #[.int .i64 0,.int .i64 0,.string ⟨#[]⟩,.slice none 0 0,.slice none 0 0] af)] S w':=hI
 refine ⟨fun D x9 x8 x7 x6 x5 x4 x3 w_=>Fx D 0 [x3=.pointer (some ⟨b1,0,none⟩),x4=.agg #[.int .i64 c.head.kind,.int .i64 c.head.n,.string c.head.name,kv],True,x6=.pointer (some ⟨b1,4,none⟩),x7=ks,True,True,True]/\∃ M1 M2 k1,(D 2=true->x5=.agg #[.int .i64 c.head.kind,.int .i64 c.head.n,.string c.head.name,k1]/\TrT M1 [.int .i64 c.head.kind,.int .i64 c.head.n,.string c.head.name,k1] c.head)/\(D 5=true->TrSl 4 TrT M2 x8 c.body)/\(D 6=true->x9=.agg #[.int .i64 c.head.kind,.int .i64 c.head.n,.string c.head.name,k1,x8])/\(D 5=true->D 2=true)/\(D 6=true->D 5=true)/\(D 7=true->D 6=true)/\Inv w [] (kU (.blk b1 (.cells #[.int .i64 c.head.kind,.int .i64 c.head.n,.string c.head.name,kv,ks] af)) (.blk b2 (.cells #[.int .i64 0,.int .i64 0,.string ⟨#[]⟩,.slice none 0 0,.slice none 0 0] af)) (.blk b2 (.cells #[.int .i64 c.head.kind,.int .i64 c.head.n,.string c.head.name,k1,x8] af)) M1 M2 (D 2) (D 5) (D 7)) S w_,⟨Fx.nil _ _,⟨[],[],undef,aK,aK,aK,aK,aK,aK,hI.draw⟩⟩,⟨?_,?_,?_,?_,?_,?_,?_,?_,trivial⟩,?_⟩
 all_goals (intro D bx; intros; rename_i x9 x8 x7 x6 x5 x4 x3 w_ hA_; have hF_:=hA_.1; obtain ⟨⟨cr,cq,ct,cu,cz,cB,bP,cT,_⟩,⟨M1,M2,k1,e2,e5,e6,k5,k6,k7,hI⟩⟩:=hA_)
 ·refine aB bM ?_
  exact ⟨hF_.set 0 rfl,⟨M1,M2,k1,e2,e5,e6,k5,k6,k7,hI⟩⟩
 ·obtain rfl:=cr ‹_›
  refine dQ hI 0 [.int .i64 c.head.kind,.int .i64 c.head.n,.string c.head.name,kv] ac rfl rfl HQ ?_
  exact ⟨hF_.set 1 rfl,⟨M1,M2,k1,e2,e5,e6,k5,k6,k7,hI⟩⟩
 ·obtain rfl:=cq ‹_›
  have f5:D 5=false:=Bool.eq_false_iff.2 fun h=>by rw [k5 h] at bx; cases bx
  have f6:D 6=false:=Bool.eq_false_iff.2 fun h=>by rw [k6 h] at f5; cases f5
  have f7:D 7=false:=Bool.eq_false_iff.2 fun h=>by rw [k7 h] at f6; cases f6
  rw [bx,f5,f7] at hI
  refine Run.call0 GU FJ hI (Cc c.head S _ h1' (by omega)) fun v' I' S w_=>?_
  rintro ⟨rfl,cs1,M1,rfl,rfl,hT1⟩ _ hI
  obtain ⟨k1,rfl,_⟩:=TrT.iff.1 hT1
  have e2:ar D 2 2=true->Value.agg #[.int .i64 c.head.kind,.int .i64 c.head.n,.string c.head.name,k1]=Value.agg #[.int .i64 c.head.kind,.int .i64 c.head.n,.string c.head.name,k1]/\TrT M1 [.int .i64 c.head.kind,.int .i64 c.head.n,.string c.head.name,k1] c.head:=fun _=>⟨rfl,hT1⟩
  have e6:=fun (h:D 6=true)=>(absurd h (by rw [f6]; decide):x9=.agg #[.int .i64 c.head.kind,.int .i64 c.head.n,.string c.head.name,k1,x8])
  have k5:=fun (_:ar D 2 5=true)=>(rfl:ar D 2 2=true)
  have hI:Inv w [] (kU (.blk b1 (.cells #[.int .i64 c.head.kind,.int .i64 c.head.n,.string c.head.name,kv,ks] af)) (.blk b2 (.cells #[.int .i64 0,.int .i64 0,.string ⟨#[]⟩,.slice none 0 0,.slice none 0 0] af)) (.blk b2 (.cells #[.int .i64 c.head.kind,.int .i64 c.head.n,.string c.head.name,k1,x8] af)) M1 M2 true (D 5) (D 7)) S w_:=by
   rw [f5,f7]
   simpa [kU] using hI
  exact ⟨hF_.set 2 (by first|assumption|trivial),⟨M1,M2,k1,e2,e5,e6,k5,k6,k7,hI⟩⟩
 ·refine aB bb ?_
  exact ⟨hF_.set 3 rfl,⟨M1,M2,k1,e2,e5,e6,k5,k6,k7,hI⟩⟩
 ·obtain rfl:=cu ‹_›
  refine aS hI 0 aj rfl rfl ?_
  exact ⟨hF_.set 4 (by first|assumption|trivial),⟨M1,M2,k1,e2,e5,e6,k5,k6,k7,hI⟩⟩
 ·have FF:=cz ‹_›
  have f6:D 6=false:=Bool.eq_false_iff.2 fun h=>by rw [k6 h] at bx; cases bx
  have f7:D 7=false:=Bool.eq_false_iff.2 fun h=>by rw [k7 h] at f6; cases f6
  rw [bx,‹D 2=true›,f7] at hI
  refine Run.call0 lP l7 hI (by rw [FF]; exact qz h2 (by omega)) fun v' I' S w_=>?_
  rintro ⟨rfl,M2,rfl,hT2⟩ _ hI
  have e5:=fun (_:ar D 5 5=true)=>hT2
  have e6:=fun (h:D 6=true)=>(absurd h (by rw [f6]; decide):x9=.agg #[.int .i64 c.head.kind,.int .i64 c.head.n,.string c.head.name,k1,v'])
  have k6:=fun (_:ar D 5 6=true)=>(rfl:ar D 5 5=true)
  have k5:=fun (_:ar D 5 5=true)=>‹D 2=true›
  have hI:Inv w [] (kU (.blk b1 (.cells #[.int .i64 c.head.kind,.int .i64 c.head.n,.string c.head.name,kv,ks] af)) (.blk b2 (.cells #[.int .i64 0,.int .i64 0,.string ⟨#[]⟩,.slice none 0 0,.slice none 0 0] af)) (.blk b2 (.cells #[.int .i64 c.head.kind,.int .i64 c.head.n,.string c.head.name,k1,v'] af)) M1 M2 (D 2) true (D 7)) S w_:=by
   rw [‹D 2=true›,f7]
   simpa [kU] using hI
  exact ⟨hF_.set 5 (by first|assumption|trivial),⟨M1,M2,k1,e2,e5,e6,k5,k6,k7,hI⟩⟩
 ·have OJ:=ct ‹_›
  have I7:=cB ‹_›
  have q2:=(e2 ‹D 2=true›).1
  subst q2
  refine Bu (by obtain ⟨a8,cap8,hx8,_⟩:=e5 ‹D 5=true›; exact ⟨_,_,_,hx8⟩) ?_
  have e6:ar D 6 6=true->Value.agg #[.int .i64 c.head.kind,.int .i64 c.head.n,.string c.head.name,k1,x8]=Value.agg #[.int .i64 c.head.kind,.int .i64 c.head.n,.string c.head.name,k1,x8]:=fun _=>rfl
  have k7:=fun (_:ar D 6 7=true)=>(rfl:ar D 6 6=true)
  have k6:=fun (_:ar D 6 6=true)=>‹D 5=true›
  exact ⟨hF_.set 6 (by first|assumption|trivial),⟨M1,M2,k1,e2,e5,e6,k5,k6,k7,hI⟩⟩
 ·have IU:=bP ‹_›
  have q6:=e6 ‹D 6=true›
  subst q6
  have q2:=(e2 ‹D 2=true›).2
  have q5:=e5 ‹D 5=true›
  rw [bx,‹D 2=true›,‹D 5=true›] at hI
  refine av hI 1 rfl aY rfl rfl ?_ fun w_ hI=>?_
  ·intro u hu
   have hu':u∈([.int .i64 c.head.kind,.int .i64 c.head.n,.string c.head.name,k1,x8]:List Value):=hu
   simp at hu'
   have o1:k1.oneCell'=true:=q2.one k1 (by simp)
   have o2:x8.oneCell'=true:=by obtain ⟨a,cap,rfl,_⟩:=q5; rfl
   rcases hu' with rfl|rfl|rfl|rfl|rfl <;> first|rfl|exact o1|exact o2
  have k7:=fun (_:ar D 7 7=true)=>‹D 6=true›
  have hI:Inv w [] (kU (.blk b1 (.cells #[.int .i64 c.head.kind,.int .i64 c.head.n,.string c.head.name,kv,ks] af)) (.blk b2 (.cells #[.int .i64 0,.int .i64 0,.string ⟨#[]⟩,.slice none 0 0,.slice none 0 0] af)) (.blk b2 (.cells #[.int .i64 c.head.kind,.int .i64 c.head.n,.string c.head.name,k1,x8] af)) M1 M2 (D 2) (D 5) true) S w_:=by
   rw [‹D 2=true›,‹D 5=true›]
   exact hI
  exact ⟨hF_.set 7 trivial,⟨M1,M2,k1,e2,e5,e6,k5,k6,k7,hI⟩⟩
 obtain ⟨rfl,rfl,OJ,rfl,FF,I7,IU,_,_⟩:=hF_.all
 have RF:D 2=true:=by assumption
 have Ou:D 5=true:=by assumption
 have zn:D 7=true:=by assumption
 clear hF_ cr cq ct cu cz cB bP cT
 have q2:=(e2 RF).2
 have q5:=e5 Ou
 rw [RF,Ou,zn] at hI
 refine bl hI 1 aY rfl rfl ?_
 refine ⟨_,_,_,rfl,hI.sub (List.sublist_append_right [_,_] (aV M1++aV M2)),Ext.refl _ _ _,rfl,_,M1++M2,rfl,by rw [cO],_,x8,M1,M2,rfl,rfl,q2,q5⟩
end
end
section
open Go Go.RowKit
theorem RdC.one {S:ad} {cs:List Value} {c:C} (h:RdC S cs c):∀ u∈cs,u.oneCell'=true:=by
 obtain ⟨hd,ks,rfl,h1,a,cap,rfl,_⟩:=h
 intro u hu
 rcases List.mem_append.1 hu with hu|hu
 ·exact h1.one u hu
 ·simp at hu; subst hu; rfl
section
attribute [local irreducible] Run CondV ai az
theorem ub {p:List C} {S:ad} {v:Value} (h:RdSl S 5 (RdC S) v p) (hw:p.length+wP p<=1048576):Tri Tryz.prog y6 [v] [] S (Gw 5 TrC S p):=by
 intro w hI
 refine mN.2 ?_
 dsimp only[mN,aD]
 refine aG h aP ?_
 refine ⟨fun i t w'=>∃ (k:Nat) (Ls:List aN) (css:List (List Value)),k<=p.length/\i=.int .i64 k/\Grown 5 TrC Ls css (p.take k)/\Inv w [] (aC t af 5 css::aV Ls.flatten) S w',
  fun i _ _=>p.length - (intOf i).toNat,⟨0,[],[],Nat.zero_le _,rfl,Grown.nil _ _,hI.rowNil af 5⟩,?_⟩
 intro t8 _ t3 _ _ _ _ _ _ _ _ _ w'
 rintro ⟨k,Ls,css,hk,rfl,hg,hI⟩
 refine bI ?_
 refine aI (fun hki=>?_) (fun hki=>?_)
 ·have hk':k<p.length:=by omega
  have htl:(p.take k).length=k:=by simp; omega
  have hcl:=hg.hc
  refine ci hI h aP aY hk' (fun _ _=>RdC.length) fun cs hcs=>?_
  have hm:=List.getElem_mem hk'
  have hwm:=DW hm
  have hlc:=hcs.length
  refine aM hI cZ fun b6 w' hI=>?_
  have hI:=hI.perm (M:=.blk b6 _::(aC t3 af 5 css::aV Ls.flatten)) (List.perm_append_comm (l₁:=[_]))
  refine av hI 0 rfl aY (by simpa using hlc) rfl (by simpa using hcs.one) fun w' hI=>?_
  refine aA hI 0 aY rfl (by simpa using hlc) ?_
  have hI:Inv w [] (aC t3 af 5 css::aV Ls.flatten) S w':=hI.sub (List.sublist_cons_self _ _)
  refine Run.call0 zY y0 hI (xf hcs (by omega)) fun v' I' S' w'=>?_
  rintro ⟨rfl,cs',L,rfl,rfl,hT⟩ _ hI
  refine cR hI 0 cs' cj (by omega) (by omega) rfl hT.length hT.one (by omega) (by omega) fun v' w' hI=>?_
  refine bq (by omega) ?_
  refine ⟨⟨k+1,Ls++[L],css++[cs'],hk',rfl,?_,?_⟩,by simp [intOf]; omega⟩
  ·rw [List.take_succ_eq_append_getElem hk']
   exact hg.snoc hT hT.length
  ·simp only [List.flatten_append,List.flatten_cons,List.flatten_nil,List.append_nil,cO]
   exact hI
 ·have:k=p.length:=by omega
  subst this
  rw [List.take_length] at hg
  obtain ⟨L,hT,hI⟩:=Inv.rowTree (A:=[]) hI hg
  exact ⟨_,_,_,rfl,hI,Ext.refl _ _ _,rfl,_,rfl,hT⟩

theorem Inv.rowSlice {w0 w:World} {X:List Nat} {L:List Item} {S:ad} {v:Value} {e:TypeId} {k n:Nat} {xs:List Value} (h:Inv w0 X L S w) (i:Nat) (hi:L[i]?=some (.row v e k n xs)):∃ a m c,v=.slice a m c:=by
 have hm:w.ownsRow 0 e k v n xs:=h.its (.row v e k n xs) (List.mem_of_getElem? hi)
 rcases hm.2 with ⟨rfl,_⟩|⟨g,cap,cur,rfl,_⟩
 ·exact ⟨_,_,_,rfl⟩
 ·exact ⟨_,_,_,rfl⟩
def aT (B1 B2 B3 B3' r r':Item) (rest:List Item) (M:aN) (B27:Item) (d7 d8 d9 d11:Bool):List Item:=
 B1::B2::(match d11 with|true=>B3'|false=>B3)::(match d9 with|true=>r'|false=>r)::(rest++((match d7 with|true=>aV M|false=>[])++(match d8 with|true=>[B27]|false=>[])))

theorem eY:∀ (t:T) (S:ad) (cs:List Value),RdT S cs t->wT t<=1048576->Tri Tryz.prog rf [.agg cs.toArray] [] S (Ck S t):=by
 refine T.ind fun k n s ks ih S cs h hw=>?_
 intro w hI
 obtain ⟨kv,rfl,h1,h2,hs,hks⟩:=RdT.iff.1 h
 simp only [T.name,T.kids,T.kind,T.n] at h1 h2 hs hks ⊢
 simp only [wT] at hw
 refine jP.2 ?_
 dsimp only[jP,aD]
 refine bt hI fun b1 w' hI=>?_
 refine aM hI aU fun b2 w' hI=>?_
 refine ae hI 0 rfl aQ aE rfl ?_
 refine ae hI 0 rfl ba aE rfl ?_
 refine ae hI 0 rfl aR aL rfl ?_
 refine nK ?_
 refine aM hI aU fun b3 w' hI=>?_
 refine av hI 2 rfl ac rfl rfl (by simp [Value.oneCell']) fun w' hI=>?_
 have hI:=hI.rowNil ab 4
 refine ⟨fun i w'=>∃ (j:Nat) (kvc:Value) (Ls:List aN) (css:List (List Value)),j<=ks.length/\i=.int .i64 j/\Grown 4 TrT Ls css (ks.take j)/\
   Inv w [] (.blk b1 (.cells #[.int .i64 k,.int .i64 n,.string s,kv] ab)::.blk b2 (.cells #[.int .i64 0,.int .i64 0,.string ⟨#[]⟩,.slice none 0 0] ab)::.blk b3 (.cells #[.int .i64 k,.int .i64 n,.string s,kvc] ab)::aC kvc ab 4 css::aV Ls.flatten) S w',
  fun i _=>ks.length - (intOf i).toNat,⟨0,_,[],[],Nat.zero_le _,rfl,Grown.nil _ _,hI⟩,?_⟩
 intro t4 _ _ _ _ _ _ _ _ _ _ _ _ _ _ _ _ _ _ w'
 rintro ⟨j,kvc,Ls,css,hj,rfl,hg,hI⟩
 refine ae hI 0 rfl au aj rfl ?_
 refine aG hks ah ?_
 refine bI ?_
 refine aI (fun hji=>?_) (fun hji=>?_)
 ·have hj':j<ks.length:=by omega
  have hjl:(ks.take j).length=j:=by simp; omega
  have hcl:=hg.hc
  have hm:=List.getElem_mem hj'
  have hwm:=iv hm
  obtain ⟨b,o,cap,c,E,fz,rfl,hS,hR⟩:=hks.at_ hj'
  refine ⟨fun D np jo ww nf eV lO wo wi rD md sn w_=>Fx D 0 [sn=.pointer (some ⟨b3,3,none⟩),md=kvc,rD=.pointer (some ⟨b1,3,none⟩),wi=.slice (some ⟨b,o,none⟩) (ks).length cap,wo=.int .i64 j,lO=.pointer (some ⟨b,o+j * 4,none⟩),eV=.agg (aJ c (o+j * 4) 4).toArray,True,True,True,np=.pointer (some ⟨b3,3,none⟩),True]/\∃ M cs7 b8,(D 7=true->nf=.agg cs7.toArray/\TrT M cs7 (ks)[j])/\(D 8=true->ww=.slice (some ⟨b8,0,none⟩) 1 1)/\(D 8=true->D 7=true)/\(D 9=true->D 8=true)/\(D 11=true->D 9=true)/\(D 11=true->D 1=true)/\Inv w [] (aT (.blk b1 (.cells #[.int .i64 k,.int .i64 n,.string s,.slice (some ⟨b,o,none⟩) ks.length cap] ab)) (.blk b2 (.cells #[.int .i64 0,.int .i64 0,.string ⟨#[]⟩,.slice none 0 0] ab)) (.blk b3 (.cells #[.int .i64 k,.int .i64 n,.string s,kvc] ab)) (.blk b3 (.cells #[.int .i64 k,.int .i64 n,.string s,jo] ab)) (aC kvc ab 4 css) (aC jo ab 4 (css++[cs7])) (aV Ls.flatten) M (.blk b8 (.cells cs7.toArray ab)) (D 7) (D 8) (D 9) (D 11)) S w_,⟨Fx.nil _ _,⟨[],[],0,aK,aK,aK,aK,aK,aK,by simpa [aT,aV] using hI.draw⟩⟩,⟨?_,?_,?_,?_,?_,?_,?_,?_,?_,?_,?_,?_,trivial⟩,?_⟩
  all_goals (intro D bx; intros; rename_i np jo ww nf eV lO wo wi rD md sn w_ hA_; have hF_:=hA_.1; obtain ⟨⟨cr,cq,ct,cu,cz,cB,bP,cT,dw,fc,cE,cY,_⟩,⟨M,cs7,b8,e7,e8,k8,k9,k11,k1,hI⟩⟩:=hA_)
  ·refine aB au ?_
   exact ⟨hF_.set 0 rfl,⟨M,cs7,b8,e7,e8,k8,k9,k11,k1,hI⟩⟩
  ·obtain rfl:=cr ‹_›
   have f11:D 11=false:=Bool.eq_false_iff.2 fun h=>by rw [k1 h] at bx; cases bx
   refine aS (b:=b3) hI 2 (c:=(#[.int .i64 k,.int .i64 n,.string s,kvc])) aj (by rw [f11]; rfl) rfl ?_
   have k1:=fun (_:ar D 1 11=true)=>(rfl:ar D 1 1=true)
   exact ⟨hF_.set 1 rfl,⟨M,cs7,b8,e7,e8,k8,k9,k11,k1,hI⟩⟩
  ·refine aB au ?_
   exact ⟨hF_.set 2 rfl,⟨M,cs7,b8,e7,e8,k8,k9,k11,k1,hI⟩⟩
  ·obtain rfl:=ct ‹_›
   refine aS hI 0 aj rfl rfl ?_
   exact ⟨hF_.set 3 rfl,⟨M,cs7,b8,e7,e8,k8,k9,k11,k1,hI⟩⟩
  ·exact ⟨hF_.set 4 rfl,⟨M,cs7,b8,e7,e8,k8,k9,k11,k1,hI⟩⟩
  ·obtain rfl:=cu ‹_›
   obtain rfl:=cz ‹_›
   refine aH ah hj' ?_
   exact ⟨hF_.set 5 rfl,⟨M,cs7,b8,e7,e8,k8,k9,k11,k1,hI⟩⟩
  ·obtain rfl:=cB ‹_›
   refine b0 ac hR.length (fun j v hj=>by rw [hI.cellS hS]; exact aO rfl j v hj) ?_
   exact ⟨hF_.set 6 rfl,⟨M,cs7,b8,e7,e8,k8,k9,k11,k1,hI⟩⟩
  ·obtain rfl:=bP ‹_›
   have f8:D 8=false:=Bool.eq_false_iff.2 fun h=>by rw [k8 h] at bx; cases bx
   have f9:D 9=false:=Bool.eq_false_iff.2 fun h=>by rw [k9 h] at f8; cases f8
   have f11:D 11=false:=Bool.eq_false_iff.2 fun h=>by rw [k11 h] at f9; cases f9
   rw [bx,f8,f9,f11] at hI
   refine Run.call0 dV dZ hI (ih _ (List.getElem_mem hj') S _ hR (by omega)) fun v' I' S w_=>?_
   rintro ⟨rfl,cs7,M,rfl,rfl,hT⟩ _ hI
   have e7:ar D 7 7=true->Value.agg cs7.toArray=Value.agg cs7.toArray/\TrT M cs7 (ks)[j]:=fun _=>⟨rfl,hT⟩
   have k8:=fun (_:ar D 7 8=true)=>(rfl:ar D 7 7=true)
   have hI:Inv w [] (aT (.blk b1 (.cells #[.int .i64 k,.int .i64 n,.string s,.slice (some ⟨b,o,none⟩) ks.length cap] ab)) (.blk b2 (.cells #[.int .i64 0,.int .i64 0,.string ⟨#[]⟩,.slice none 0 0] ab)) (.blk b3 (.cells #[.int .i64 k,.int .i64 n,.string s,kvc] ab)) (.blk b3 (.cells #[.int .i64 k,.int .i64 n,.string s,jo] ab)) (aC kvc ab 4 css) (aC jo ab 4 (css++[cs7])) (aV Ls.flatten) M (.blk b8 (.cells cs7.toArray ab)) true (D 8) (D 9) (D 11)) S w_:=by
    rw [f8,f9,f11]
    simpa [aT] using hI
   exact ⟨hF_.set 7 (by first|assumption|trivial),⟨M,cs7,b8,e7,e8,k8,k9,k11,k1,hI⟩⟩
  ·have Mh:=cT ‹_›
   have f9:D 9=false:=Bool.eq_false_iff.2 fun h=>by rw [k9 h] at bx; cases bx
   have f11:D 11=false:=Bool.eq_false_iff.2 fun h=>by rw [k11 h] at f9; cases f9
   obtain ⟨q7,hT⟩:=e7 ‹D 7=true›
   subst q7
   rw [‹D 7=true›,bx,f9,f11] at hI
   refine dD hI bu (by simp [Value.cells,hT.length]) (by omega) (by omega) fun b8 w_ hI=>?_
   have e7:ar D 8 7=true->Value.agg cs7.toArray=Value.agg cs7.toArray/\TrT M cs7 (ks)[j]:=fun _=>⟨rfl,hT⟩
   have e8:=fun (_:ar D 8 8=true)=>(rfl:Value.slice (some ⟨b8,0,none⟩) 1 1=_)
   have k8:=fun (_:ar D 8 8=true)=>‹D 7=true›
   have k9:=fun (_:ar D 8 9=true)=>(rfl:ar D 8 8=true)
   have hI:Inv w [] (aT (.blk b1 (.cells #[.int .i64 k,.int .i64 n,.string s,.slice (some ⟨b,o,none⟩) ks.length cap] ab)) (.blk b2 (.cells #[.int .i64 0,.int .i64 0,.string ⟨#[]⟩,.slice none 0 0] ab)) (.blk b3 (.cells #[.int .i64 k,.int .i64 n,.string s,kvc] ab)) (.blk b3 (.cells #[.int .i64 k,.int .i64 n,.string s,jo] ab)) (aC kvc ab 4 css) (aC jo ab 4 (css++[cs7])) (aV Ls.flatten) M (.blk b8 (.cells cs7.toArray ab)) (D 7) true (D 9) (D 11)) S w_:=by
    rw [‹D 7=true›,f9,f11]
    simpa [aT,Value.cells] using hI
   exact ⟨hF_.set 8 (by first|assumption|trivial),⟨M,cs7,b8,e7,e8,k8,k9,k11,k1,hI⟩⟩
  ·obtain rfl:=cq ‹_›
   have IA:=dw ‹_›
   have f11:D 11=false:=Bool.eq_false_iff.2 fun h=>by rw [k11 h] at bx; cases bx
   have q8:=e8 ‹D 8=true›
   subst q8
   obtain ⟨_,hT⟩:=e7 ‹D 7=true›
   rw [‹D 7=true›,‹D 8=true›,bx,f11] at hI
   have hblk:((aT (.blk b1 (.cells #[.int .i64 k,.int .i64 n,.string s,.slice (some ⟨b,o,none⟩) ks.length cap] ab)) (.blk b2 (.cells #[.int .i64 0,.int .i64 0,.string ⟨#[]⟩,.slice none 0 0] ab)) (.blk b3 (.cells #[.int .i64 k,.int .i64 n,.string s,md] ab)) (.blk b3 (.cells #[.int .i64 k,.int .i64 n,.string s,jo] ab)) (aC md ab 4 css) (aC jo ab 4 (css++[cs7])) (aV Ls.flatten) M (.blk b8 (.cells cs7.toArray ab)) true true false false))[4+(aV Ls.flatten).length+(aV M).length]?=some (.blk b8 (.cells cs7.toArray ab)):=by
    have e4:4+(aV Ls.flatten).length+(aV M).length=((aV Ls.flatten).length+(aV M).length)+1+1+1+1:=by omega
    rw [e4]
    simp only [aT,List.getElem?_cons_succ]
    rw [List.getElem?_append_right (by omega),Nat.add_sub_cancel_left,List.getElem?_append_right (Nat.le_refl _),Nat.sub_self]; rfl
   refine dn hI 3 cs7 bu (by omega) rfl (by rw [hT.length]) (m:=1) (o:=0) ?_ hT.one (by omega) (by omega) fun v' w_ hI=>?_
   ·intro i u hi
    rw [hI.cellL hblk,Nat.zero_add]
    simpa using hi
   rw [dP] at hI
   have k9:=fun (_:ar D 9 9=true)=>‹D 8=true›
   have k11:=fun (_:ar D 9 11=true)=>(rfl:ar D 9 9=true)
   have hI:Inv w [] (aT (.blk b1 (.cells #[.int .i64 k,.int .i64 n,.string s,.slice (some ⟨b,o,none⟩) ks.length cap] ab)) (.blk b2 (.cells #[.int .i64 0,.int .i64 0,.string ⟨#[]⟩,.slice none 0 0] ab)) (.blk b3 (.cells #[.int .i64 k,.int .i64 n,.string s,md] ab)) (.blk b3 (.cells #[.int .i64 k,.int .i64 n,.string s,v'] ab)) (aC md ab 4 css) (aC v' ab 4 (css++[cs7])) (aV Ls.flatten) M (.blk b8 (.cells cs7.toArray ab)) (D 7) (D 8) true (D 11)) S w_:=by
    rw [‹D 7=true›,‹D 8=true›,f11]
    exact hI
   exact ⟨hF_.set 9 (by first|assumption|trivial),⟨M,cs7,b8,e7,e8,k8,k9,k11,k1,hI⟩⟩
  ·refine aB au ?_
   exact ⟨hF_.set 10 rfl,⟨M,cs7,b8,e7,e8,k8,k9,k11,k1,hI⟩⟩
  ·obtain rfl:=cE ‹_›
   have KY:=fc ‹_›
   rw [‹D 7=true›,‹D 8=true›,‹D 9=true›,bx] at hI
   obtain ⟨va,vn,vc,hv9⟩:=Inv.rowSlice hI 3 rfl
   refine cw hI 2 (n:=1) (by rw [hv9]; rfl) (by decide +kernel) rfl (by simp) (by rw [hv9]; simp [Value.cells,Value.oneCell']) fun w_ hI=>?_
   have hcl9:Value.cells jo=#[jo]:=by rw [hv9]; rfl
   rw [hcl9] at hI
   have k1:=fun (_:ar D 11 11=true)=>‹D 1=true›
   have k11:=fun (_:ar D 11 11=true)=>‹D 9=true›
   have hI:Inv w [] (aT (.blk b1 (.cells #[.int .i64 k,.int .i64 n,.string s,.slice (some ⟨b,o,none⟩) ks.length cap] ab)) (.blk b2 (.cells #[.int .i64 0,.int .i64 0,.string ⟨#[]⟩,.slice none 0 0] ab)) (.blk b3 (.cells #[.int .i64 k,.int .i64 n,.string s,kvc] ab)) (.blk b3 (.cells #[.int .i64 k,.int .i64 n,.string s,jo] ab)) (aC kvc ab 4 css) (aC jo ab 4 (css++[cs7])) (aV Ls.flatten) M (.blk b8 (.cells cs7.toArray ab)) (D 7) (D 8) (D 9) true) S w_:=by
    rw [‹D 7=true›,‹D 8=true›,‹D 9=true›]
    exact hI
   exact ⟨hF_.set 11 trivial,⟨M,cs7,b8,e7,e8,k8,k9,k11,k1,hI⟩⟩
  obtain ⟨rfl,rfl,rfl,rfl,rfl,rfl,rfl,Mh,IA,KY,rfl,_,_⟩:=hF_.all
  have zn:D 7=true:=by assumption
  have LZ:D 8=true:=by assumption
  have Pq:D 9=true:=by assumption
  have ui:D 11=true:=by assumption
  clear hF_ cr cq ct cu cz cB bP cT dw fc cE cY
  obtain ⟨_,hT⟩:=e7 zn
  rw [zn,LZ,Pq,ui] at hI
  refine bq (by omega) ?_
  refine ⟨⟨j+1,jo,Ls++[M],css++[cs7],hj',rfl,?_,?_⟩,by simp [intOf]; omega⟩
  ·rw [List.take_succ_eq_append_getElem hj']
   exact hg.snoc hT hT.length
  ·simp only [List.flatten_append,List.flatten_cons,List.flatten_nil,List.append_nil,cO]
   refine hI.sub ?_
   simp only [aT]
   rw [<- List.append_assoc]
   exact (((List.sublist_append_left _ _).cons_cons _).cons_cons _).cons_cons _ |>.cons_cons _
 ·have:j=ks.length:=by omega
  subst this
  rw [List.take_length] at hg
  obtain ⟨va,vn,vc,hvk⟩:=hI.rowSlice 3 rfl
  have hv1:kvc.oneCell'=true:=by rw [hvk]; rfl
  refine aA hI 2 ac rfl rfl ?_
  refine av hI 1 rfl ac rfl rfl ?_ fun w' hI=>?_
  ·intro u hu
   have hu':u∈([.int .i64 k,.int .i64 n,.string s,kvc]:List Value):=hu
   simp at hu'
   rcases hu' with rfl|rfl|rfl|rfl <;> first|rfl|exact hv1
  refine bl hI 1 ac rfl rfl ?_
  have hI:Inv w [] ([]++(aC kvc ab 4 css::aV Ls.flatten)) S w':=hI.sub (List.sublist_append_right [_,_,_] _)
  obtain ⟨L,hT,hI⟩:=Inv.rowTree hI hg
  exact ⟨_,_,_,rfl,hI,Ext.refl _ _ _,rfl,_,L,rfl,rfl,TrT.iff.2 ⟨kvc,rfl,h1,h2,hs,hT⟩⟩
end
end
end Go.Proofs.YtgllldjiaglkcaaGreatDoor
