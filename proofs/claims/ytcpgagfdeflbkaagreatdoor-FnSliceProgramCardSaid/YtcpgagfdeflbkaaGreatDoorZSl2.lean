/- The row's reading of the arguments gives the reading of this proof; and what a law that returns true owes. -/
import Derived.Test.YtcpgagfdeflbkaaGreatDoorZSl1
import Derived.Test.YtcpgagfdeflbkaaGreatDoorRows
import Derived.ProofKit
import Derived.ReadAgain
import Derived.Carry
import Derived.Test.YtcpgagfdeflbkaaGreatDoorZSlS
import Derived.Test.YtcpgagfdeflbkaaGreatDoorZSlF
import Derived.Test.YtcpgagfdeflbkaaGreatDoorZSlgz
import Derived.Test.YtcpgagfdeflbkaaGreatDoorZSl0
import Derived.Laws.BytesArg
import Derived.Laws.StructEq
import Derived.Laws.Tables
namespace Go.Proofs.YtcpgagfdeflbkaaGreatDoor
section
open Go Go.ChangeShapes Go.WideShapes Go.ChangeAt Go.RowKit

def LT (W:World):ad:=fun b=>W.heap[b]?
section
variable {H:Type} {enc:TypeId × Value->H} {P:Program} {W:World} {sp:Nat->Bool} {held:Bool}
theorem Nn {a:Addr} {v:Value} (h:W.cell? a=some v):∃ b o c E fz,a=⟨b,o,none⟩/\W.heap[b]?=some (.cells c E fz)/\c[o]?=some v:=by
 obtain ⟨b,o,s⟩:=a
 simp only [World.cell?] at h
 split at h
 ·rename_i c E fz hb
  cases s with
  | none=>exact ⟨b,o,c,E,fz,rfl,hb,by simpa using h⟩
  | some s=>simp at h
 ·cases h
theorem Oy {b o k:Nat} {cs:List Value} {c:Array Value} {E:TypeId} {fz:Nat × Nat} (hb:W.heap[b]?=some (.cells c E fz)) (h:W.cells? 0 ⟨b,o,none⟩ k=some cs):ba c o k=cs:=by
 unfold World.cells? at h
 rw [ai (aR _)] at h
 have hl:cs.length=k:=by simpa using mapM_some_length h
 apply tk
 intro i
 rw [ba,tx]
 by_cases hi:i<k
 ·rw [ai hi,uD]
  have:=mapM_some_get h i i (by simp [hi])
  rw [<- this,kL]
  simp [World.cell?,hb]
 ·rw [af hi,O4 (by omega)]
theorem yO {α:Type} (p:Nat->α->Prop):∀ n:Nat,(∀ i,i<n->∃ t,p i t)->∃ xs:List α,xs.length=n/\∀ i (h:i<xs.length),p i xs[i]
 | 0,_=>⟨[],rfl,fun i h=>by simp at h⟩
 | n+1,h=>by
  obtain ⟨xs,hl,hx⟩:=yO p n fun i hi=>h i (by omega)
  obtain ⟨t,ht⟩:=h n (by omega)
  refine ⟨xs++[t],by simp [hl],fun i hi=>?_⟩
  by_cases e:i<xs.length
  ·rw [ft e]
   exact hx i e
  ·have:i=xs.length:=by simp at hi; omega
   subst this
   simp only [eT (aM _),dY,kQ]
   rw [hl]
   exact ht
theorem y5 {T e:TypeId} {k:Nat} (h:cB P T=some (e,k)):P.underlying T=some (.slice e)/\P.cellsOf e=k:=by
 unfold cB at h
 split at h
 ·rename_i e' he
  rw [LP] at h
  obtain ⟨i,hi,hx⟩:=h
  simp only [cL] at hx
  obtain ⟨rfl,rfl⟩:=hx
  exact ⟨he,by simp [Program.cellsOf,hi]⟩
 ·cases h
theorem PW {α:Type} {R:List Value->α->Prop} {T e:TypeId} {k fuel:Nat} {v:Value} {x:DataW H × List MemPlace} (hu:cB P T=some (e,k)) (hk0:0<k)
  (h:DataW.trod enc P W 0 sp held fuel T [v]=some x) (hel:∀ n cs y,fuel=n+1->DataW.trod enc P W 0 sp held n e cs=some y->∃ t:α,R cs t):∃ xs,RdSl (LT W) k R v xs:=by
 obtain ⟨hu1,hk⟩:=y5 hu
 rcases DataW.trod_slice hu1 h with ⟨hcs,_⟩|⟨a,len,cap,elems,rest,n,hf,hcs,_,_,hl,hc,hlen,hE,_⟩
 ·simp only [jl,jP] at hcs
  subst hcs
  exact ⟨[],none,0,rfl,aM _,aR _,.inl rfl⟩
 ·simp only [jl,jP] at hcs
  subst hcs
  have hE':∀ i,i<len->∃ t:α,∃ cs,W.cells? 0 (a.add (i * k)) k=some cs/\R cs t:=by
   intro i hi
   have:=hE i hi
   rw [hk,iR (by omega),Option.bind_eq_some_iff] at this
   obtain ⟨cs,h1,h2⟩:=this
   obtain ⟨t,ht⟩:=hel n cs _ hf h2
   exact ⟨t,cs,h1,ht⟩
  obtain ⟨xs,hxl,hxs⟩:=yO _ len hE'
  subst hxl
  refine ⟨xs,some a,cap,rfl,hl,hc,?_⟩
  by_cases h0:xs.length=0
  ·exact .inl (iW h0)
  ·obtain ⟨cs0,h1,_⟩:=hxs 0 (by omega)
   have e0:a.add (0 * k)=a:=by rw [wG]; simp [Addr.add]
   rw [e0] at h1
   have hc0:∃ u,W.cell? a=some u:=by
    unfold World.cells? at h1
    rw [ai (aR _)] at h1
    have hl0:cs0.length=k:=by simpa using mapM_some_length h1
    have:=mapM_some_get h1 0 0 (by simp [hk0])
    rw [iR (by omega)] at this
    have e1:a.add 0=a:=by simp [Addr.add]
    rw [e1] at this
    exact ⟨_,this⟩
   obtain ⟨u,hu0⟩:=hc0
   obtain ⟨b,o,c,E,fz,rfl,hb,_⟩:=Nn hu0
   refine .inr ⟨b,o,c,E,fz,rfl,hb,fun i hi=>?_⟩
   obtain ⟨cs,h2,hR⟩:=hxs i hi
   rw [kL] at h2
   rw [Oy hb h2]
   exact hR
end

section
variable {H:Type} {enc:TypeId × Value->H} {W:World} {sp:Nat->Bool} {held:Bool}
theorem four {cs:List Value} (h:cs.length=4):∃ a b c d,cs=[a,b,c,d]:=by
 match cs,h with
 | [a,b,c,d],_=>exact ⟨a,b,c,d,rfl⟩
end

theorem Inv.entry (W:World):Inv W [] [] (LT W) W:=Inv.start (L:=[]) (by simp) (by simp [bu]) fun b o hb=>⟨hb,by simp [bu]⟩
theorem Inv.same {W W':World} {L:List Item} {S:ad} (h:Inv W [] L S W') (b:Nat) (hb:b<W.heap.size):W'.heap[b]?=W.heap[b]?:=h.old b hb (by simp)
theorem Nd {W W':World} {may:MemPlace->Prop} (ho:W'.os=W.os) (hp:W'.output=W.output) (h:∀ b,b<W.heap.size->W'.heap[b]?=W.heap[b]?):W.keptBut W' may:=by
 refine ⟨ho,hp,fun i hi=>?_⟩
 rw [h i hi]
 split
 ·rename_i e1 e2
  rw [e1] at e2
  simp only [aT,Obj.cells.injEq] at e2
  obtain ⟨rfl,rfl,rfl⟩:=e2
  exact ⟨rfl,rfl,rfl,fun _ _=>rfl⟩
 ·rename_i e1 e2
  rw [e1] at e2
  simp only [aT,Obj.map.injEq] at e2
  obtain ⟨rfl,rfl⟩:=e2
  exact .inr ⟨rfl,rfl⟩
 ·rfl
end
section
open Go Go.RowKit
attribute [local irreducible] Run CondV aq aK
end
section
open Go Go.RowKit
attribute [local irreducible] Run CondV aq aK

mutual
def eqT:T->T->Bool
 | .mk k n s ks,.mk k' n' s' ks'=>decide (k=k') && (decide (n=n') && (decide (s=s') && eqL ks ks'))
def eqL:List T->List T->Bool
 | [],[]=>true
 | t::ts,u::us=>eqT t u && eqL ts us
 | _,_=>false
end
mutual
theorem Mw:∀ a b:T,eqT a b=true↔a=b
 | .mk k n s ks,.mk k' n' s' ks'=>by
  simp only [eqT,bN,bC,uX ks ks',T.mk.injEq]
theorem uX:∀ a b:List T,eqL a b=true↔a=b
 | [],[]=>by simp [eqL]
 | [],_::_=>by simp [eqL]
 | _::_,[]=>by simp [eqL]
 | t::ts,u::us=>by
  simp only [eqL,bN,Mw t u,uX ts us,jl]
end
theorem QW:∀ {a b:List T},a.length≠b.length->eqL a b=false:=by
 intro a b h
 rw [<- Jt,uX]
 rintro rfl
 exact h rfl
theorem Jp {a b c d e:Value}:∀ (j:Nat) (v:Value),([a,b,c,d]:List Value)[j]?=some v->(#[a,b,c,d,e]:Array Value)[0+j]?=some v
 | 0,_,h|1,_,h|2,_,h|3,_,h=>h
 | j+4,_,h=>by simp at h
end
section
open Go Go.RowKit
attribute [local irreducible] Run CondV aq aK
end
section
open Go Go.RowKit
section
variable {P:Program} {w w0:World} {X:List Nat} {L:List Item} {S:ad} {K:Value->World->Prop}
attribute [local irreducible] Run CondV aq aK
theorem Q0 {T:TypeId} {cx cy:Bool} {a b:Int} (hb:b≠0) (hk:K (.int .i64 (a.tmod b)) w):Run P (cw .rem T cx cy (.int .i64 a) (.int .i64 b)) w K:=
 Run.of (by simp [cw,cC,binOp,Op.intDiv,hb]) hk
theorem Sk {T:TypeId} {cx cy:Bool} {a b:Int} (hb:b≠0) (hr:-9223372036854775808<=a.tdiv b/\a.tdiv b<=9223372036854775807) (hk:K (.int .i64 (a.tdiv b)) w):Run P (cw .quo T cx cy (.int .i64 a) (.int .i64 b)) w K:=
 Run.of (by simp [cw,cC,binOp,Op.intDiv,hb,IntWalk.i64_in _ hr]) hk
end

section
attribute [local irreducible] Run CondV aq aK
end
end
section
open Go Go.RowKit

theorem Part.upd {α:Type} {k:Nat} {R:aU->List Value->α->Prop} {c c':Array Value} {Ls:List aU} {xs:List α} (h:Part k R c Ls xs) {i:Nat} {L':aU} {x:α} (hx:R L' (ba c' (i * k) k) x)
  (hne:∀ j,j≠i->ba c' (j * k) k=ba c (j * k) k):Part k R c' (Ls.set i L') (xs.set i x):=by
 refine ⟨by simp [h.1],fun j h1 h2=>?_⟩
 by_cases e:i=j
 ·subst e
  rw [Jk,Jk]
  exact hx
 ·rw [Mi e,Mi e,hne j fun e'=>e e'.symm]
  exact h.2 j (by simpa using h1) (by simpa using h2)
section
attribute [local irreducible] Run CondV aq aK
end
end
section
open Go Go.RowKit

section
attribute [local irreducible] Run CondV aq aK
theorem TrC.parts {L:aU} {cs:List Value} {c:C} (h:TrC L cs c):∃ kv ks L1 L2,cs=[.int .i64 c.head.kind,.int .i64 c.head.n,.string c.head.name,kv,ks]/\L=L1++L2/\TrSl 4 TrT L1 kv c.head.kids/\TrSl 4 TrT L2 ks c.body:=by
 obtain ⟨hd,ks,L1,L2,rfl,rfl,h1,h2⟩:=h
 obtain ⟨kv,rfl,_,_,_,hkT⟩:=TrT.iff.1 h1
 exact ⟨kv,ks,L1,L2,rfl,rfl,hkT,h2⟩
end
end
section
open Go Go.RowKit

section
attribute [local irreducible] Run CondV aq aK
end
end
section
open Go Go.RowKit

theorem FX:Tryz.prog.underlying bf=some (.struct (Tryz.prog.fieldsOf bf)):=by kernel_rfl
theorem Li:Tryz.prog.stoodInHeld bf=false:=by kernel_rfl
theorem Im:Tryz.prog.eqGuardType Tryz.prog.depth bf=false:=by kernel_rfl
theorem nZ {P:Program} {w:World} {T:TypeId} {cs:Array Value} {off:Nat} {v:Value} (h:iq P T=true) (hx:cs[off]?=some v):(part T cs off).run P w=.ok v w:=by
 simp [part,(wB (w:=w) h).1,hx]
theorem OJ {w:World} (s s':ByteArray) (n n':Int) :
  (Op.equalIn 10000 bf (.agg #[.string s,.int .i64 n]) (.agg #[.string s',.int .i64 n'])).run Tryz.prog w=.ok (decide (s=s') && decide (n=n')) w:=by
 rw [show (10000:Nat)=9999+1 from rfl,run_equalIn_struct w 9999 bf _ _ FX Li]
 have hf:(Tryz.prog.fieldsOf bf).toList=[(Tryz.prog.fieldsOf bf)[0]!,(Tryz.prog.fieldsOf bf)[1]!]:=by kernel_rfl
 have h0:((Tryz.prog.fieldsOf bf)[0]!).type=fB:=by kernel_rfl
 have h1:((Tryz.prog.fieldsOf bf)[1]!).type=b0:=by kernel_rfl
 have o0:((Tryz.prog.fieldsOf bf)[0]!).offset=0:=by kernel_rfl
 have o1:((Tryz.prog.fieldsOf bf)[1]!).offset=1:=by kernel_rfl
 have n0:((Tryz.prog.fieldsOf bf)[0]!).name≠"_" := by decide +kernel
 have n1:((Tryz.prog.fieldsOf bf)[1]!).name≠"_" := by decide +kernel
 rw [hf]
 have e0:(Op.equalIn (9998+1) fB (.string s) (.string s')).run Tryz.prog w=.ok (decide (s=s')) w:=by
  rw [run_equalIn_string w 9998 fB s s' aJ,vw]
 have e1:(Op.equalIn (9998+1) b0 (.int .i64 n) (.int .i64 n')).run Tryz.prog w=.ok (decide (n=n')) w:=by
  rw [run_equalIn_int w 9998 b0 .i64 .i64 n n' gd]; rfl
 rw [show (9999:Nat)=9998+1 from rfl]
 generalize hg0:(Tryz.prog.fieldsOf bf)[0]! = g0 at *
 generalize hg1:(Tryz.prog.fieldsOf bf)[1]! = g1 at *
 simp only [Op.eqFields,n0,n1,ne_eq,not_false_eq_true,if_true,Sem.run_bind,h0,h1,o0,o1]
 rw [nZ aN (v:=.string s) rfl,Result.andThen_ok,nZ aN (v:=.string s') rfl,Result.andThen_ok,e0,Result.andThen_ok]
 cases decide (s=s') with
 | false=>rfl
 | true=>
  simp only [Bool.not_true,H0,if_false,Sem.run_bind]
  rw [nZ aI (v:=.int .i64 n) rfl,Result.andThen_ok,nZ aI (v:=.int .i64 n') rfl,Result.andThen_ok,e1,Result.andThen_ok]
  cases decide (n=n') with
  | false=>rfl
  | true=>rfl
section
variable {w:World} {K:Value->World->Prop}
attribute [local irreducible] Run
theorem O6 {cx cy:Bool} {s s':ByteArray} {n n':Int} :
  (cw .eql bf cx cy (.agg #[.string s,.int .i64 n]) (.agg #[.string s',.int .i64 n'])).run Tryz.prog w=.ok (.value (.bool (decide (s=s') && decide (n=n')))) w:=by
 unfold cw
 rw [Sem.run_bind,run_eqGuard_agg w .eql bf _ _ _ _ Im,Result.andThen_ok,Sem.run_bind,run_eql_struct,OJ,Result.andThen_ok,Result.andThen_ok]
 rfl
theorem DI {s:ByteArray} {n:Int}:(cn bf [(0,.string s),(1,.int .i64 n)]).run Tryz.prog w=.ok (.value (.agg #[.string s,.int .i64 n])) w:=by
 unfold cn
 rw [Sem.run_bind,run_build w bf _ #[.string s,.int .i64 n] (by kernel_rfl),Result.andThen_ok]
 rfl
theorem FK {cx cy:Bool} {s s':ByteArray} {n n':Int} (hk:K (.bool (decide (s=s') && decide (n=n'))) w):Run Tryz.prog (cw .eql bf cx cy (.agg #[.string s,.int .i64 n]) (.agg #[.string s',.int .i64 n'])) w K:=
 Run.of O6 hk
theorem yF {s:ByteArray} {n:Int} (hk:K (.agg #[.string s,.int .i64 n]) w):Run Tryz.prog (cn bf [(0,.string s),(1,.int .i64 n)]) w K:=
 Run.of DI hk
end

attribute [local irreducible] Run CondV aq aK
structure Pd where
 name:ByteArray
 arity:Int
deriving DecidableEq
def Pd.cells (x:Pd):List Value:=[.string x.name,.int .i64 x.arity]
def QR (cs:List Value) (x:Pd):Prop:=cs=x.cells
def bE (t:T):Pd:=⟨t.name,t.kids.length⟩
def eC (x y:Pd):Bool:=decide (x.name=y.name) && decide (x.arity=y.arity)
theorem i0 (x y:Pd):eC x y=decide (x=y):=by
 obtain ⟨a,b⟩:=x
 obtain ⟨c,d⟩:=y
 rw [eC,oS]
 simp
theorem jv {t:T} {S:ad} {cs:List Value} (h:RdT S cs t):Pure Tryz.prog OQ [.agg cs.toArray] S (.agg (bE t).cells.toArray):=by
 intro w hI
 obtain ⟨kv,rfl,_,_,hs,hks⟩:=RdT.iff.1 h
 obtain ⟨k,n,s,ks⟩:=t
 simp only [T.name,T.kids,T.kind,T.n] at hs hks ⊢
 refine EN.2 ?_
 dsimp only[EN,aG]
 refine bp hI fun b1 w' hI=>?_
 refine aP hI BN fun b2 w' hI=>?_
 refine ae hI 0 rfl aW aN rfl ?_
 refine ae hI 0 rfl av ao rfl ?_
 refine aF hks ah ?_
 refine yF ?_
 refine aA hI 1 rfl cO rfl rfl (by simp [Value.oneCell']) fun w' hI=>?_
 refine bw hI 1 cO rfl rfl ?_
 exact done hI rfl
theorem lH {t:T} {S:ad} {cs:List Value} (h:RdT S cs t):Pure Tryz.prog MU [.agg cs.toArray] S (.agg (bE t).cells.toArray):=by
 intro w hI
 obtain ⟨kv,rfl,_,_,hs,hks⟩:=RdT.iff.1 h
 obtain ⟨k,n,s,ks⟩:=t
 simp only [T.name,T.kids,T.kind,T.n] at hs hks ⊢
 refine BR.2 ?_
 dsimp only[BR,aG]
 refine bp hI fun b1 w' hI=>?_
 refine aP hI BN fun b2 w' hI=>?_
 refine ae hI 0 rfl aW aN rfl ?_
 refine ae hI 0 rfl av ao rfl ?_
 refine aF hks ah ?_
 refine yF ?_
 refine aA hI 1 rfl cO rfl rfl (by simp [Value.oneCell']) fun w' hI=>?_
 refine bw hI 1 cO rfl rfl ?_
 exact done hI rfl

def ez (f:C->Bool):List C->Nat->List Int
 | [],_=>[]
 | c::cs,k=>if f c=true then (k:Int)::ez f cs (k+1) else ez f cs (k+1)
theorem vj (f:C->Bool):∀ (p:List C) (k:Nat) (n:Int),n∈ez f p k->∃ i:Nat,(k:Int)<=n/\n=k+i/\∃ h:i<p.length,f p[i]=true
 | [],k,n,h=>by simp [ez] at h
 | c::cs,k,n,h=>by
  have hrec:n∈ez f cs (k+1)->∃ i:Nat,(k:Int)<=n/\n=k+i/\∃ h:i<(c::cs).length,f (c::cs)[i]=true:=by
   intro h
   obtain ⟨i,h1,h2,h3,h4⟩:=vj f cs (k+1) n h
   exact ⟨i+1,by omega,by omega,by simpa using h3,by simpa using h4⟩
  rw [ez] at h
  split at h
  ·rcases cQ.1 h with rfl|h
   ·exact ⟨0,by omega,by omega,by simp,by simpa using ‹f c=true›⟩
   ·exact hrec h
  ·exact hrec h
theorem mQ (f:C->Bool):∀ (p:List C) (k:Nat),(ez f p k).length<=p.length
 | [],k=>by simp [ez]
 | c::cs,k=>by
  have:=mQ f cs (k+1)
  rw [ez]
  split <;> simp <;> omega
end
section
open Go Go.RowKit
attribute [local irreducible] Run CondV aq aK

theorem Lj (f:C->Bool) (p:List C) (k:Nat) (h:k<p.length) (l:List Int):(if f p[k]=true then l++[(k:Int)] else l)++ez f (p.drop (k+1)) (k+1)=l++ez f (p.drop k) k:=by
 rw [di h,ez]
 split
 ·rw [eI]; rfl
 ·rfl

theorem mH {p:List C} {S:ad} {v:Value} (x:Pd) (h:RdSl S 5 (RdC S) v p) (hp:p.length<=2000000):Tri Tryz.prog A2 [v,.agg x.cells.toArray] [] S (OO S (ez (fun c=>eC (bE c.head) x) p 0)):=by
 intro w hI
 obtain ⟨xs,xn⟩:=x
 refine oB.2 ?_
 dsimp only[oB,aO]
 refine bp hI fun b3 w' hI=>?_
 refine aF h bi ?_
 refine ⟨fun i t w'=>∃ (k:Nat) (l:List Int),k<=p.length/\i=.int .i64 k/\l++ez (fun c=>eC (bE c.head) ⟨xs,xn⟩) (p.drop k) k=ez (fun c=>eC (bE c.head) ⟨xs,xn⟩) p 0/\l.length<=k/\
   Inv w [] [.blk b3 (.cells #[.string xs,.int .i64 xn] bf),dX t l] S w',fun i _ _=>p.length - (intOf i).toNat,⟨0,[],aR _,rfl,rfl,aM _,hI.rowNil b0 1⟩,?_⟩
 intro t10 _ t5 _ _ _ _ t19 t18 t17 t16 t15 _ _ _ _ _ _ w'
 rintro ⟨k,l,hk,rfl,hrel,hl,hI⟩
 refine bL ?_
 refine aH (fun hki=>?_) (fun hki=>?_)
 ·have hk':k<p.length:=by omega
  refine ⟨fun t w'=>Inv w [] [.blk b3 (.cells #[.string xs,.int .i64 xn] bf),dX t (if eC (bE p[k].head) ⟨xs,xn⟩=true then l++[(k:Int)] else l)] S w',?_,?_⟩
  ·refine cj hI h bi be hk' (fun _ _=>RdC.length) fun cs hcs=>?_
   obtain ⟨hd,ks,rfl,h1,h2⟩:=hcs
   have h1':=h1
   obtain ⟨kv,rfl,_,_,hs,hks⟩:=RdT.iff.1 h1
   have hkv:kv.oneCell'=true/\ks.oneCell'=true:=by
    obtain ⟨a,cap,rfl,_⟩:=hks
    obtain ⟨a,cap,rfl,_⟩:=h2
    exact ⟨rfl,rfl⟩
   refine aP hI dA fun b7 w' hI=>?_
   refine aA hI 2 rfl be rfl rfl (by
    intro u hu
    have hu':u∈([.int .i64 p[k].head.kind,.int .i64 p[k].head.n,.string p[k].head.name,kv,ks]:List Value):=hu
    simp at hu'
    rcases hu' with rfl|rfl|rfl|rfl|rfl <;> first|rfl|exact hkv.1|exact hkv.2) fun w' hI=>?_
   have hI:Inv w [] [.blk b3 (.cells #[.string xs,.int .i64 xn] bf),dX t5 l,.blk b7 (.cells #[.int .i64 p[k].head.kind,.int .i64 p[k].head.n,.string p[k].head.name,kv,ks] ag)] S w':=hI
   refine ⟨fun D pH BX mZ vm Cq w_=>Fx D 0 [Cq=.pointer (some ⟨b7,0,none⟩),vm=.agg #[.int .i64 p[k].head.kind,.int .i64 p[k].head.n,.string p[k].head.name,kv],mZ=.agg #[.string p[k].head.name,.int .i64 p[k].head.kids.length],BX=.agg #[.string xs,.int .i64 xn],pH=.bool (eC (bE p[k].head) ⟨xs,xn⟩)]/\Inv w [] [.blk b3 (.cells #[.string xs,.int .i64 xn] bf),dX t5 l,.blk b7 (.cells #[.int .i64 p[k].head.kind,.int .i64 p[k].head.n,.string p[k].head.name,kv,ks] ag)] S w_,⟨Fx.nil _ _,hI.draw⟩,⟨?_,?_,?_,?_,?_,trivial⟩,?_⟩
   all_goals (intro D bI; intros; rename_i pH BX mZ vm Cq w_ hA_; have hF_:=hA_.1; obtain ⟨⟨cJ,cH,cK,cI,cN,_⟩,hI⟩:=hA_)
   ·refine aC bZ ?_
    exact ⟨hF_.set 0 rfl,hI⟩
   ·obtain rfl:=cJ ‹_›
    refine ey hI 2 [.int .i64 p[k].head.kind,.int .i64 p[k].head.n,.string p[k].head.name,kv] ac rfl rfl Jp ?_
    exact ⟨hF_.set 1 rfl,hI⟩
   ·obtain rfl:=cH ‹_›
    refine Run.callPure rg ro hI (jv h1') fun w_ hI=>?_
    exact ⟨hF_.set 2 rfl,hI⟩
   ·refine az hI 0 cO rfl rfl ?_
    exact ⟨hF_.set 3 rfl,hI⟩
   ·obtain rfl:=cK ‹_›
    obtain rfl:=cI ‹_›
    refine FK ?_
    exact ⟨hF_.set 4 rfl,hI⟩
   obtain ⟨rfl,rfl,rfl,rfl,rfl,_⟩:=hF_.all
   clear hF_ cJ cH cK cI cN
   refine aw (fun hb=>?_) (fun hb=>?_)
   ·refine d6 hI ra rfl (by omega) (by omega) fun b w' hI=>?_
    refine dy hI 1 (k:=1) [.int .i64 k] ra (by omega) rfl rfl ?_ ?_ (by omega) (by omega) fun v' w' hI=>?_
    ·intro j u hj
     rw [hI.cellL (i:=3) rfl]
     match j with
     | 0=>simpa [Value.cells] using hj
     | j+1=>simp at hj
    ·simp [Value.oneCell']
    ·rw [wK] at hI
     have hI:=hI.pick [true,true,false,false]
     rw [ai hb]
     have e:Item.row v' b0 1 (l.length+1) (ints (l++[(k:Int)]))=dX v' (l++[(k:Int)]):=by simp [dX]
     rw [show List.length l+1=l.length+1 from rfl,e] at hI
     exact hI
   ·rw [af (by rw [hb]; decide)]
    exact hI.pick [true,true,false]
  intro t5 _ _ _ _ _ _ _ _ _ _ _ _ _ _ w' hI
  refine bn (by omega) ?_
  refine ⟨⟨k+1,_,hk',rfl,?_,?_,hI⟩,by simp [intOf]; omega⟩
  ·rw [Lj (fun c=>eC (bE c.head) ⟨xs,xn⟩) p k hk' l,hrel]
  ·split
   ·simp; omega
   ·omega
 ·have:k=p.length:=by omega
  subst this
  rw [dP,ez,cX] at hrel
  subst hrel
  exact ⟨_,_,_,rfl,hI.pick [false,true],Ext.refl _ _ _,rfl,rfl⟩
end
section
open Go Go.RowKit
attribute [local irreducible] Run CondV aq aK

def pds (l:List Pd):List Value:=l.flatMap Pd.cells
abbrev cW (v:Value) (l:List Pd):Item:=.row v bf 2 l.length (pds l)
theorem H7 (l:List Pd) (x:Pd):pds l++x.cells=pds (l++[x]):=by simp [pds]
theorem RowRd.preds {S:ad} {v:Value} {e:TypeId} {l:List Pd} (h:RowRd S v e 2 l.length (pds l)):RdSl S 2 QR v l:=
 RowRd.rd (f:=Pd.cells) (fun _=>rfl) (fun _ _=>rfl) h
def pq (l:List Pd) (x:Pd):Bool:=l.any fun y=>eC x y
def ff (l:List Pd) (x:Pd):List Pd:=if pq l x=true then l else l++[x]
theorem EM (x y:Pd):eC x y=eC y x:=by
 rw [i0,i0,oS]
 simp only [bC]
 exact ⟨Eq.symm,Eq.symm⟩

theorem uh (x:Pd) {l:List Pd} {S:ad} {v:Value} (h:RdSl S 2 QR v l):Pure Tryz.prog JY [v,.agg x.cells.toArray] S (.bool (pq l x)):=by
 intro w hI
 have hlen:=h.le
 simp only [maxLen] at hlen
 obtain ⟨xs,xn⟩:=x
 refine yr.2 ?_
 dsimp only[yr,aO]
 refine bp hI fun b3 w' hI=>?_
 have hI:Inv w [] [.blk b3 (.cells #[.string xs,.int .i64 xn] bf)] S w':=hI
 refine ⟨fun i w'=>∃ k:Nat,k<=l.length/\i=.int .i64 k/\pq (l.drop k) ⟨xs,xn⟩=pq l ⟨xs,xn⟩/\Inv w [] [.blk b3 (.cells #[.string xs,.int .i64 xn] bf)] S w',fun i _=>l.length - (intOf i).toNat,⟨0,aR _,rfl,rfl,hI⟩,?_⟩
 intro t5 _ _ _ t17 t16 t15 t14 t13 t12 _ _ _ _ w'
 rintro ⟨k,hk,rfl,hrel,hI⟩
 refine aF h eo ?_
 refine bL ?_
 refine aH (fun hki=>?_) (fun hki=>?_)
 ·have hk':k<l.length:=by omega
  have hstep:pq (l.drop k) ⟨xs,xn⟩=(eC ⟨xs,xn⟩ l[k] || pq (l.drop (k+1)) ⟨xs,xn⟩):=Ip _ l k hk'
  obtain ⟨b,o,cap,c,E,fz,rfl,hS,hR⟩:=h.at_ hk'
  have hR':ba c (o+k * 2) 2=[.string l[k].name,.int .i64 l[k].arity]:=hR
  refine ⟨fun D mZ vm Cq wb Em En w_=>Fx D 0 [En=.slice (some ⟨b,o,none⟩) l.length cap,Em=.int .i64 k,wb=.pointer (some ⟨b,o+k * 2,none⟩),Cq=.agg #[.string l[k].name,.int .i64 l[k].arity],vm=.agg #[.string xs,.int .i64 xn],mZ=.bool (eC l[k] ⟨xs,xn⟩)]/\Inv w [] [.blk b3 (.cells #[.string xs,.int .i64 xn] bf)] S w_,⟨Fx.nil _ _,hI.draw⟩,⟨?_,?_,?_,?_,?_,?_,trivial⟩,?_⟩
  all_goals (intro D bI; intros; rename_i mZ vm Cq wb Em En w_ hA_; have hF_:=hA_.1; obtain ⟨⟨cJ,cH,cK,cI,cN,cP,_⟩,hI⟩:=hA_)
  ·exact ⟨hF_.set 0 rfl,hI⟩
  ·exact ⟨hF_.set 1 rfl,hI⟩
  ·obtain rfl:=cJ ‹_›
   obtain rfl:=cH ‹_›
   refine aD eo hk' ?_
   exact ⟨hF_.set 2 rfl,hI⟩
  ·obtain rfl:=cK ‹_›
   refine cm (cs:=[.string l[k].name,.int .i64 l[k].arity]) cO rfl (fun j v hj=>by rw [hI.cellS hS]; exact aL hR' j v hj) ?_
   exact ⟨hF_.set 3 rfl,hI⟩
  ·refine az hI 0 cO rfl rfl ?_
   exact ⟨hF_.set 4 rfl,hI⟩
  ·obtain rfl:=cI ‹_›
   obtain rfl:=cN ‹_›
   refine FK ?_
   exact ⟨hF_.set 5 rfl,hI⟩
  obtain ⟨rfl,rfl,rfl,rfl,rfl,rfl,_⟩:=hF_.all
  clear hF_ cJ cH cK cI cN cP
  refine aw (fun hb=>done hI ?_) (fun hb=>?_)
  ·rw [<- hrel,hstep,EM,hb]; rfl
  ·refine bn (by omega) ?_
   exact ⟨⟨k+1,hk',rfl,by rw [<- hrel,hstep,EM,hb]; rfl,hI⟩,by simp [intOf]; omega⟩
 ·have:k=l.length:=by omega
  subst this
  exact done hI (by rw [<- hrel,dP]; rfl)
theorem wn (x:Pd) {l:List Pd} {S:ad} {v:Value} (h:RdSl S 2 QR v l) :
  Pure Tryz.prog AG [v,.agg x.cells.toArray] S (.int .i64 (ce (σ:=Unit) (fun _ y=>(eC x y,())) () l 0).1):=by
 intro w hI
 have hlen:=h.le
 simp only [maxLen] at hlen
 obtain ⟨xs,xn⟩:=x
 refine oR.2 ?_
 dsimp only[oR,aO]
 refine bp hI fun b3 w' hI=>?_
 have hI:Inv w [] [.blk b3 (.cells #[.string xs,.int .i64 xn] bf)] S w':=hI
 refine aF h eo ?_
 refine ⟨fun i w'=>∃ k:Nat,k<=l.length/\i=.int .i64 k/\ce (σ:=Unit) (fun _ y=>(eC ⟨xs,xn⟩ y,())) () (l.drop k) k=ce (σ:=Unit) (fun _ y=>(eC ⟨xs,xn⟩ y,())) () l 0/\Inv w [] [.blk b3 (.cells #[.string xs,.int .i64 xn] bf)] S w',
  fun i _=>l.length - (intOf i).toNat,⟨0,aR _,rfl,rfl,hI⟩,?_⟩
 intro t8 _ _ _ t16 t15 t14 t13 t12 t11 _ _ _ w'
 rintro ⟨k,hk,rfl,hrel,hI⟩
 refine bL ?_
 refine aH (fun hki=>?_) (fun hki=>?_)
 ·have hk':k<l.length:=by omega
  rw [di hk',ce] at hrel
  obtain ⟨b,o,cap,c,E,fz,rfl,hS,hR⟩:=h.at_ hk'
  have hR':ba c (o+k * 2) 2=[.string l[k].name,.int .i64 l[k].arity]:=hR
  refine ⟨fun D vm Cq wb Em En Hn w_=>Fx D 0 [Hn=.agg #[.string xs,.int .i64 xn],En=.slice (some ⟨b,o,none⟩) l.length cap,Em=.int .i64 k,wb=.pointer (some ⟨b,o+k * 2,none⟩),Cq=.agg #[.string l[k].name,.int .i64 l[k].arity],vm=.bool (eC ⟨xs,xn⟩ l[k])]/\Inv w [] [.blk b3 (.cells #[.string xs,.int .i64 xn] bf)] S w_,⟨Fx.nil _ _,hI.draw⟩,⟨?_,?_,?_,?_,?_,?_,trivial⟩,?_⟩
  all_goals (intro D bI; intros; rename_i vm Cq wb Em En Hn w_ hA_; have hF_:=hA_.1; obtain ⟨⟨cJ,cH,cK,cI,cN,cP,_⟩,hI⟩:=hA_)
  ·refine az hI 0 cO rfl rfl ?_
   exact ⟨hF_.set 0 rfl,hI⟩
  ·exact ⟨hF_.set 1 rfl,hI⟩
  ·exact ⟨hF_.set 2 rfl,hI⟩
  ·obtain rfl:=cH ‹_›
   obtain rfl:=cK ‹_›
   refine aD eo hk' ?_
   exact ⟨hF_.set 3 rfl,hI⟩
  ·obtain rfl:=cI ‹_›
   refine cm (cs:=[.string l[k].name,.int .i64 l[k].arity]) cO rfl (fun j v hj=>by rw [hI.cellS hS]; exact aL hR' j v hj) ?_
   exact ⟨hF_.set 4 rfl,hI⟩
  ·obtain rfl:=cJ ‹_›
   obtain rfl:=cN ‹_›
   refine FK ?_
   exact ⟨hF_.set 5 rfl,hI⟩
  obtain ⟨rfl,rfl,rfl,rfl,rfl,rfl,_⟩:=hF_.all
  clear hF_ cJ cH cK cI cN cP
  refine aw (fun he=>done hI ?_) (fun he=>?_)
  ·rw [<- hrel,ai (by simpa using he)]
  ·refine bn (by omega) ?_
   rw [af (by simpa using he)] at hrel
   exact ⟨⟨k+1,hk',rfl,hrel,hI⟩,by simp [intOf]; omega⟩
 ·have:k=l.length:=by omega
  subst this
  rw [dP,ce] at hrel
  exact done hI (by rw [<- hrel])
theorem jn (x:Pd) {l:List Pd} {S:ad} {v:Value} (h:RdSl S 2 QR v l):Pure Tryz.prog s6 [v,.agg x.cells.toArray] S (.bool (pq l x)):=by
 intro w hI
 obtain ⟨xs,xn⟩:=x
 refine ki.2 ?_
 dsimp only[ki,aO]
 refine bp hI fun b3 w' hI=>?_
 refine az hI 0 cO rfl rfl ?_
 refine Run.callPure zL zC hI (wn ⟨xs,xn⟩ h) fun w' hI=>?_
 refine kX (done hI ?_)
 rw [(im _ l () 0).1,jF]; rfl
abbrev pP (S:ad) (r:List Pd):Value->List Item->ad->Prop:=fun v I' S'=>I'=[cW v r]/\S'=S
theorem sd (x:Pd) (l:List Pd) (v:Value) (S:ad) (hl:l.length<=1000000000):Tri Tryz.prog H9 [v,.agg x.cells.toArray] [cW v l] S (pP S (ff l x)):=by
 intro w hI
 obtain ⟨xs,xn⟩:=x
 refine uT.2 ?_
 dsimp only[uT,aO]
 refine bp hI fun b3 w' hI=>?_
 have hI:=hI.perm (M:=[.blk b3 (.cells #[.string xs,.int .i64 xn] bf),cW v l]) (List.Perm.swap _ _ _)
 refine az hI 0 cO rfl rfl ?_
 obtain ⟨S1,hle,hrd,hI,hback⟩:=Inv.lend (A:=[_]) hI
 refine Run.callPure jT jO hI (jn ⟨xs,xn⟩ hrd.preds) fun w' hI=>?_
 have hI:=hback _ _ hI
 refine aw (fun hb=>?_) (fun hb=>?_)
 ·rw [ff,ai hb]
  exact ⟨_,_,_,rfl,Inv.pick hI [false,true],Ext.refl _ _ _,rfl,rfl⟩
 ·rw [ff,af (by rw [hb]; decide)]
  refine az hI 0 cO rfl rfl ?_
  refine d6 hI fT rfl (by omega) (by omega) fun b w' hI=>?_
  refine dy hI 1 (k:=2) [.string xs,.int .i64 xn] fT (by omega) rfl rfl ?_ ?_ (by omega) (by omega) fun v' w' hI=>?_
  ·intro j u hj
   rw [hI.cellL (i:=2) rfl]
   match j with
   | 0|1=>simpa [Value.cells] using hj
   | j+2=>simp at hj
  ·simp [Value.oneCell']
  ·have hI:=hI.pick [false,true,false]
   have e:Item.row v' bf 2 (l.length+1) (pds l++[.string xs,.int .i64 xn])=cW v' (l++[⟨xs,xn⟩]):=by
    rw [show ([.string xs,.int .i64 xn]:List Value)=Pd.cells ⟨xs,xn⟩ from rfl,H7]; simp [cW]
   refine ⟨_,_,_,rfl,hI,Ext.refl _ _ _,?_,rfl⟩
   show [Item.row v' bf 2 (l.length+1) (pds l++[.string xs,.int .i64 xn])]=_
   rw [e]
end
section
open Go Go.RowKit

theorem Inv.lendAll {w0 w:World} {X:List Nat} {A:List Item} (M:aU) {S:ad} (h:Inv w0 X (A++bj M) S w) :
  ∃ S',Sle S S'/\Ins S' M/\Inv w0 X A S' w/\∀ B w',Inv w0 X B S' w'->Inv w0 X (B++bj M) S w':=by
 obtain ⟨S',h1,h2,h3,h4⟩:=Inv.publishAll M h
 have hnd:=h.nd
 rw [bD,nR] at hnd
 refine ⟨S',h2,h3,h1,fun B w' hB=>⟨hB.size,hB.os,hB.tape,hB.output,hB.old,fun it hit=>?_,?_,fun b hb=>?_,fun b o hb=>⟨(hB.pub b o (h2 b o hb)).1,fun hb'=>?_⟩⟩⟩
 ·rcases cd.1 hit with hit|hit
  ·exact hB.its it hit
  ·obtain ⟨p,hp,rfl⟩:=iX.1 hit
   exact (hB.pub _ _ (h3 p hp)).1
 ·rw [bD,nR]
  refine ⟨hB.nd,hnd.2.1,fun a ha b hb e=>?_⟩
  subst e
  obtain ⟨p,hp,rfl⟩:=gw.1 hb
  exact (hB.pub _ _ (h3 p hp)).2 ha
 ·rw [bD] at hb
  rcases cd.1 hb with hb|hb
  ·exact hB.new b hb
  ·exact h.new b (by rw [bD]; exact kw _ hb)
 ·rw [bD] at hb'
  rcases cd.1 hb' with hb'|hb'
  ·exact (hB.pub b o (h2 b o hb)).2 hb'
  ·exact (h.pub b o hb).2 (by rw [bD]; exact kw _ hb')
theorem Inv.openRow {w0 w:World} {X:List Nat} {A:List Item} {S:ad} {v:Value} {e:TypeId} {k n:Nat} {xs:List Value} (h:Inv w0 X (A++[.row v e k n xs]) S w) :
  xs.length=n * k/\((v=.slice none 0 0/\n=0) ∨ ∃ g cap cur,v=.slice (some ⟨g,0,none⟩) n cap/\n<=cap/\cap<=maxLen/\cur.size=cap * k/\cur.toList.take (n * k)=xs/\Inv w0 X (A++[.blk g (.cells cur e)]) S w):=by
 have hm:w.ownsRow 0 e k v n xs:=h.its (.row v e k n xs) (by simp)
 obtain ⟨hl,hm⟩:=hm
 refine ⟨hl,?_⟩
 rcases hm with hn|⟨g,cap,cur,rfl,_,hg,hnc,hcm,hcs,ht⟩
 ·exact .inl hn
 ·have hf:bu (A++[Item.blk g (.cells cur e)])=bu (A++[Item.row (.slice (some ⟨g,0,none⟩) n cap) e k n xs]):=by
   simp [bu,Item.foot,Value.ownBlock]
  refine .inr ⟨g,cap,cur,rfl,hnc,hcm,hcs,ht,h.size,h.os,h.tape,h.output,h.old,fun it hit=>?_,by rw [hf]; exact h.nd,by rw [hf]; exact h.new,by rw [hf]; exact h.pub⟩
  rcases cd.1 hit with hit|hit
  ·exact h.its it (eM _ hit)
  ·simp at hit
   subst hit
   exact hg
theorem Inv.closeRow {w0 w:World} {X:List Nat} {A:List Item} {S:ad} {g cap k n:Nat} {cur:Array Value} {e:TypeId} (h:Inv w0 X (A++[.blk g (.cells cur e)]) S w) (hn:n<=cap) (hc:cap<=maxLen) (hs:cur.size=cap * k) :
  Inv w0 X (A++[.row (.slice (some ⟨g,0,none⟩) n cap) e k n (cur.toList.take (n * k))]) S w:=by
 have hg:w.heap[g]?=some (.cells cur e):=h.its (.blk g (.cells cur e)) (by simp)
 have hf:bu (A++[Item.row (.slice (some ⟨g,0,none⟩) n cap) e k n (cur.toList.take (n * k))])=bu (A++[Item.blk g (.cells cur e)]):=by
  simp [bu,Item.foot,Value.ownBlock]
 refine ⟨h.size,h.os,h.tape,h.output,h.old,fun it hit=>?_,by rw [hf]; exact h.nd,by rw [hf]; exact h.new,by rw [hf]; exact h.pub⟩
 rcases cd.1 hit with hit|hit
 ·exact h.its it (eM _ hit)
 ·simp at hit
  subst hit
  refine ⟨?_,.inr ⟨g,cap,cur,rfl,aR _,hg,hn,hc,hs,rfl⟩⟩
  rw [dN,KY,hs]
  exact qN (iy k hn)

section
attribute [local irreducible] Run CondV aq aK
end
end
section
open Go Go.RowKit

structure Grown {α:Type} (k:Nat) (R:aU->List Value->α->Prop) (Ls:List aU) (css:List (List Value)) (ys:List α):Prop where
 hL:Ls.length=ys.length
 hc:css.length=ys.length
 hk:∀ cs∈css,cs.length=k
 hR:∀ i (h:i<ys.length) (h1:i<Ls.length) (h2:i<css.length),R Ls[i] css[i] ys[i]
theorem Grown.nil {α:Type} (k:Nat) (R:aU->List Value->α->Prop):Grown k R [] [] ([]:List α):=⟨rfl,rfl,by simp,fun i h=>by simp at h⟩
theorem Grown.snoc {α:Type} {k:Nat} {R:aU->List Value->α->Prop} {Ls:List aU} {css:List (List Value)} {ys:List α} (h:Grown k R Ls css ys) {L:aU} {cs:List Value} {y:α} (hR:R L cs y) (hl:cs.length=k) :
  Grown k R (Ls++[L]) (css++[cs]) (ys++[y]):=by
 refine ⟨by simp [h.hL],by simp [h.hc],fun c hc=>?_,fun i h0 h1 h2=>?_⟩
 ·rcases cd.1 hc with hc|hc
  ·exact h.hk c hc
  ·simp at hc; subst hc; exact hl
 ·have e1:=h.hL
  have e2:=h.hc
  by_cases hi:i<ys.length
  ·rw [ft (by omega),ft (by omega),ft hi]
   exact h.hR i hi (by omega) (by omega)
  ·have:i=ys.length:=by simp at h0; omega
   subst this
   rw [eT (by omega),eT (by omega),eT (by omega)]
   simp only [e1,e2,dY,kQ]
   exact hR
theorem iC (k:Nat):∀ (css:List (List Value)) (i:Nat) (_:∀ cs∈css,cs.length=k) (h:i<css.length),(css.flatten.drop (i * k)).take k=css[i]
 | [],i,_,h=>by simp at h
 | c::css,0,hk,_=>by
  have:=hk c (bq ..)
  rw [gx,wG,MH,N2 (by omega),Fe (by omega)]
  rfl
 | c::css,i+1,hk,h=>by
  have:=hk c (bq ..)
  rw [gx,jc,n3,<- DP,List.drop_left' this]
  exact iC k css i (fun cs hc=>hk cs (bv _ hc)) (by simpa using h)
abbrev aE (v:Value) (e:TypeId) (k:Nat) (css:List (List Value)):Item:=.row v e k css.length css.flatten
theorem Inv.rowTree {α:Type} {w0 w:World} {X:List Nat} {A:List Item} {S:ad} {v:Value} {e:TypeId} {k:Nat} {R:aU->List Value->α->Prop} {Ls:List aU} {css:List (List Value)} {ys:List α}
  (h:Inv w0 X (A++(aE v e k css::bj Ls.flatten)) S w) (hg:Grown k R Ls css ys):∃ L,TrSl k R L v ys/\Inv w0 X (A++bj L) S w:=by
 have hp:List.Perm ((A++bj Ls.flatten)++[aE v e k css]) (A++(aE v e k css::bj Ls.flatten)):=by
  rw [eI]
  exact uI _ co
 obtain ⟨hl,ho⟩:=(h.perm hp).openRow
 have hcy:=hg.hc
 have hLy:=hg.hL
 rcases ho with ⟨rfl,h0⟩|⟨g,cap,cur,rfl,hnc,hcm,hcs,ht,hI⟩
 ·have:ys=[]:=iW (by omega)
  subst this
  refine ⟨[],TrSl.nil (by simp [maxLen]),?_⟩
  simpa [bj] using h.sub (dn _ _)
 ·by_cases hy:ys=[]
  ·subst hy
   have:css=[]:=iW (by simpa using hcy)
   subst this
   refine ⟨[],TrSl.nil hcm,?_⟩
   simpa [bj] using h.sub (dn _ _)
  ·refine ⟨(g,.cells cur e)::Ls.flatten,⟨_,cap,by rw [hcy],by omega,hcm,.inr ⟨g,cur,e,Ls,rfl,rfl,hLy,by omega,fun i h1 h2=>?_⟩⟩,?_⟩
   ·have hik:i * k+k<=css.length * k:=by rw [<- jc]; exact iy k (by omega)
    have:=iC k css i hg.hk (by omega)
    rw [<- ht,LR,sF,qN (by omega)] at this
    rw [ba,this]
    exact hg.hR i h1 h2 (by omega)
   ·refine hI.perm ?_
    rw [eI]
    exact uI _ (co (l₁:=[Item.blk g (.cells cur e)]))
theorem eK (v:Value) (e:TypeId) (k:Nat) (css:List (List Value)) (cs:List Value):Item.row v e k (css.length+1) (css.flatten++cs)=aE v e k (css++[cs]):=by
 simp [aE]
section
variable {P:Program} {w w0:World} {X:List Nat} {L:List Item} {S:ad} {K:Value->World->Prop}
attribute [local irreducible] Run CondV aq aK
theorem cM (h:Inv w0 X L S w) {T ty e:TypeId} {k by_:Nat} {z v:Value} {cs:List Bool} {css:List (List Value)} (i:Nat) (xs:List Value)
  (hT:lG P T=some (e,k,by_,z)) (hk0:0<k) (hk24:k<=65536) (hi:L[i]?=some (aE v e k css)) (hl:xs.length=k) (h1:∀ u∈xs,u.oneCell'=true) (hfit:css.length+1<=4294967296) (hby:by_<=32768)
  {K:Value->Value->World->Prop} (hk:∀ v' w',Inv w0 X (L.set i (aE v' e k (css++[xs]))) S w'->K (.slice (some ⟨w.heap.size,0,none⟩) 1 1) v' w') :
  Run P (bF T 1 [(0,.agg xs.toArray)]) w fun u w'=>Run P (bH .append #[T,T] ty cs [v,u]) w' (K u):=by
 refine rj h hT (by simp [Value.cells,hl]) hk24 hk0 fun w' hI=>?_
 have hil:i<L.length:=(fu.1 hi).1
 refine dy hI i xs hT hk0 (by rw [vo hil]; exact hi) (by omega) (m:=1) (o:=0) ?_ h1 hfit hby fun v' w' hI=>?_
 ·intro j u hj
  rw [hI.cellL (i:=L.length) (by rw [gP (aM _),dY]; rfl)]
  rw [cZ]
  simpa [Value.cells] using hj
 ·refine hk _ _ ?_
  rw [<- eK]
  rw [Lp _ _ hil] at hI
  exact hI.sub (dn _ _)
end

section
attribute [local irreducible] Run CondV aq aK
theorem AJ {ts:List T} (ih:∀ t∈ts,∀ (S:ad) (cs:List Value),RdT S cs t->wT t<=1048576->Tri Tryz.prog MG [.agg cs.toArray] [] S (Eu S t))
  {S:ad} {v:Value} (h:RdSl S 4 (RdT S) v ts) (hw:ts.length+wL ts<=1048576):Tri Tryz.prog y7 [v] [] S (HP 4 TrT S ts):=by
 intro w hI
 refine tu.2 ?_
 dsimp only[tu,aG]
 refine aF h ah ?_
 refine ⟨fun i t w'=>∃ (k:Nat) (Ls:List aU) (css:List (List Value)),k<=ts.length/\i=.int .i64 k/\Grown 4 TrT Ls css (ts.take k)/\Inv w [] (aE t ab 4 css::bj Ls.flatten) S w',
  fun i _ _=>ts.length - (intOf i).toNat,⟨0,[],[],aR _,rfl,Grown.nil _ _,hI.rowNil ab 4⟩,?_⟩
 intro t8 _ t3 _ _ _ _ _ _ _ _ _ w'
 rintro ⟨k,Ls,css,hk,rfl,hg,hI⟩
 refine bL ?_
 refine aH (fun hki=>?_) (fun hki=>?_)
 ·have hk':k<ts.length:=by omega
  have htl:(ts.take k).length=k:=by simp; omega
  have hcl:=hg.hc
  refine cj hI h ah ac hk' (fun _ _=>RdT.length) fun cs hcs=>?_
  have hm:=bQ hk'
  have hwm:=jf hm
  have hlc:=hcs.length
  refine aP hI aZ fun b6 w' hI=>?_
  have hI:=hI.perm (M:=.blk b6 _::(aE t3 ab 4 css::bj Ls.flatten)) (co (l₁:=[_]))
  refine aA hI 0 rfl ac (by simpa using hlc) rfl (by simpa using hcs.one) fun w' hI=>?_
  refine az hI 0 ac rfl (by simpa using hlc) ?_
  have hI:Inv w [] (aE t3 ab 4 css::bj Ls.flatten) S w':=hI.sub (gk _ _)
  refine Run.call0 HF IR hI (ih _ hm S cs hcs (by omega)) fun v' I' S' w'=>?_
  rintro ⟨rfl,cs',L,rfl,rfl,hT⟩ _ hI
  refine cM hI 0 cs' bA (by omega) (by omega) rfl hT.length hT.one (by omega) (by omega) fun v' w' hI=>?_
  refine bn (by omega) ?_
  refine ⟨⟨k+1,Ls++[L],css++[cs'],hk',rfl,?_,?_⟩,by simp [intOf]; omega⟩
  ·rw [fy hk']
   exact hg.snoc hT hT.length
  ·simp only [vD,gx,qW,cX,dv]
   exact hI
 ·have:k=ts.length:=by omega
  subst this
  rw [fM] at hg
  obtain ⟨L,hT,hI⟩:=Inv.rowTree (A:=[]) hI hg
  exact ⟨_,_,_,rfl,hI,Ext.refl _ _ _,rfl,_,rfl,hT⟩
theorem ES:∀ (t:T) (S:ad) (cs:List Value),RdT S cs t->wT t<=1048576->Tri Tryz.prog MG [.agg cs.toArray] [] S (Eu S t):=by
 refine T.ind fun k n s ks ih S cs h hw=>?_
 intro w hI
 obtain ⟨kv,rfl,h1,h2,hs,hks⟩:=RdT.iff.1 h
 simp only [T.name,T.kids,T.kind,T.n] at h1 h2 hs hks ⊢
 simp only [wT] at hw
 refine Hz.2 ?_
 dsimp only[Hz,aG]
 refine bp hI fun b1 w' hI=>?_
 refine aP hI aZ fun b2 w' hI=>?_
 refine ae hI 0 rfl av ao rfl ?_
 refine Run.call0 oa n7 hI (AJ ih hks (by omega)) fun v' I' S' w'=>?_
 rintro ⟨rfl,L,rfl,hT⟩ _ hI
 have hv:v'.cells=#[v']/\v'.oneCell'=true:=by obtain ⟨a,cap,rfl,_⟩:=hT; exact ⟨rfl,rfl⟩
 refine cT hI 0 rfl av ao rfl hv.1 hv.2 fun w' hI=>?_
 refine az hI 0 ac rfl rfl ?_
 refine aA hI 1 rfl ac rfl rfl ?_ fun w' hI=>?_
 ·intro u hu
  have hu':u∈([.int .i64 k,.int .i64 n,.string s,v']:List Value):=hu
  simp at hu'
  rcases hu' with rfl|rfl|rfl|rfl <;> first|rfl|exact hv.2
 refine bw hI 1 ac rfl rfl ?_
 refine ⟨_,_,_,rfl,hI.sub (dz [_,_] (bj L)),Ext.refl _ _ _,rfl,[.int .i64 k,.int .i64 n,.string s,v'],L,rfl,rfl,TrT.iff.2 ⟨v',rfl,h1,h2,hs,hT⟩⟩
theorem rV {ts:List T} {S:ad} {v:Value} (h:RdSl S 4 (RdT S) v ts) (hw:ts.length+wL ts<=1048576):Tri Tryz.prog y7 [v] [] S (HP 4 TrT S ts):=
 AJ (fun t _=>ES t) h hw
end
end
section
open Go Go.RowKit
section
variable {w:World} {K:Value->World->Prop}
attribute [local irreducible] Run
theorem Dt {a b:Int} {s:ByteArray} {k v:Value} (hv:∃ p n m,v=.slice p n m) (hk:K (.agg #[.int .i64 a,.int .i64 b,.string s,k,v]) w):Run Tryz.prog (cn ag [(0,.agg #[.int .i64 a,.int .i64 b,.string s,k]),(1,v)]) w K:=by
 obtain ⟨p,n,m,rfl⟩:=hv
 refine Run.of (v:=.agg #[.int .i64 a,.int .i64 b,.string s,k,.slice p n m]) (w':=w) ?_ hk
 unfold cn
 rw [Sem.run_bind,run_build w ag _ #[.int .i64 a,.int .i64 b,.string s,k,.slice p n m] (by kernel_rfl),Result.andThen_ok]
 rfl
theorem kS {a b:Int} {s:ByteArray} {k:Value} (hk:K (.agg #[.int .i64 a,.int .i64 b,.string s,k,.slice none 0 0]) w):Run Tryz.prog (cn ag [(0,.agg #[.int .i64 a,.int .i64 b,.string s,k])]) w K:=by
 refine Run.of (v:=.agg #[.int .i64 a,.int .i64 b,.string s,k,.slice none 0 0]) (w':=w) ?_ hk
 unfold cn
 rw [Sem.run_bind,run_build w ag _ #[.int .i64 a,.int .i64 b,.string s,k,.slice none 0 0] (by kernel_rfl),Result.andThen_ok]
 rfl
theorem qQ {a b:Int} {s:ByteArray} (hk:K (.agg #[.int .i64 a,.int .i64 b,.string s,.slice none 0 0]) w):Run Tryz.prog (cn ab [(0,.int .i64 a),(1,.int .i64 b),(2,.string s)]) w K:=by
 refine Run.of (v:=.agg #[.int .i64 a,.int .i64 b,.string s,.slice none 0 0]) (w':=w) ?_ hk
 unfold cn
 rw [Sem.run_bind,run_build w ab _ #[.int .i64 a,.int .i64 b,.string s,.slice none 0 0] (by kernel_rfl),Result.andThen_ok]
 rfl
end
section
attribute [local irreducible] Run CondV aq aK
def mK (B B2 B2':Item) (M1 M2:aU) (d2 d5 d7:Bool):List Item:=B::(match d7 with|true=>B2'|false=>B2)::((match d2 with|true=>bj M1|false=>[])++(match d5 with|true=>bj M2|false=>[]))
theorem zj {c:C} {S:ad} {cs:List Value} (h:RdC S cs c) (hw:wC c<=1048576):Tri Tryz.prog CR [.agg cs.toArray] [] S (Rd S c):=by
 intro w hI
 obtain ⟨hd,ks,rfl,h1,h2⟩:=h
 have h1':=h1
 obtain ⟨kv,rfl,g1,g2,g3,g4⟩:=RdT.iff.1 h1
 unfold wC at hw
 refine p7.2 ?_
 dsimp only[p7,aG]
 refine bp hI fun b1 w' hI=>?_
 refine aP hI dA fun b2 w' hI=>?_
 have hI:Inv w [] [.blk b1 (.cells #[.int .i64 c.head.kind,.int .i64 c.head.n,.string c.head.name,kv,ks] ag),.blk b2 (.cells #[.int .i64 0,.int .i64 0,.string ⟨#[]⟩,.slice none 0 0,.slice none 0 0] ag)] S w':=hI
 refine ⟨fun D x9 x8 x7 x6 x5 x4 x3 w_=>Fx D 0 [x3=.pointer (some ⟨b1,0,none⟩),x4=.agg #[.int .i64 c.head.kind,.int .i64 c.head.n,.string c.head.name,kv],True,x6=.pointer (some ⟨b1,4,none⟩),x7=ks,True,True,True]/\∃ M1 M2 k1,(D 2=true->x5=.agg #[.int .i64 c.head.kind,.int .i64 c.head.n,.string c.head.name,k1]/\TrT M1 [.int .i64 c.head.kind,.int .i64 c.head.n,.string c.head.name,k1] c.head)/\(D 5=true->TrSl 4 TrT M2 x8 c.body)/\(D 6=true->x9=.agg #[.int .i64 c.head.kind,.int .i64 c.head.n,.string c.head.name,k1,x8])/\(D 5=true->D 2=true)/\(D 6=true->D 5=true)/\(D 7=true->D 6=true)/\Inv w [] (mK (.blk b1 (.cells #[.int .i64 c.head.kind,.int .i64 c.head.n,.string c.head.name,kv,ks] ag)) (.blk b2 (.cells #[.int .i64 0,.int .i64 0,.string ⟨#[]⟩,.slice none 0 0,.slice none 0 0] ag)) (.blk b2 (.cells #[.int .i64 c.head.kind,.int .i64 c.head.n,.string c.head.name,k1,x8] ag)) M1 M2 (D 2) (D 5) (D 7)) S w_,⟨Fx.nil _ _,⟨[],[],undef,aQ,aQ,aQ,aQ,aQ,aQ,hI.draw⟩⟩,⟨?_,?_,?_,?_,?_,?_,?_,?_,trivial⟩,?_⟩
 all_goals (intro D bI; intros; rename_i x9 x8 x7 x6 x5 x4 x3 w_ hA_; have hF_:=hA_.1; obtain ⟨⟨cJ,cH,cK,cI,cN,cP,cz,dC,_⟩,⟨M1,M2,k1,e2,e5,e6,k5,k6,k7,hI⟩⟩:=hA_)
 ·refine aC bZ ?_
  exact ⟨hF_.set 0 rfl,⟨M1,M2,k1,e2,e5,e6,k5,k6,k7,hI⟩⟩
 ·obtain rfl:=cJ ‹_›
  refine ey hI 0 [.int .i64 c.head.kind,.int .i64 c.head.n,.string c.head.name,kv] ac rfl rfl Jp ?_
  exact ⟨hF_.set 1 rfl,⟨M1,M2,k1,e2,e5,e6,k5,k6,k7,hI⟩⟩
 ·obtain rfl:=cH ‹_›
  have f5:D 5=false:=cq.2 fun h=>by rw [k5 h] at bI; cases bI
  have f6:D 6=false:=cq.2 fun h=>by rw [k6 h] at f5; cases f5
  have f7:D 7=false:=cq.2 fun h=>by rw [k7 h] at f6; cases f6
  rw [bI,f5,f7] at hI
  refine Run.call0 HF IR hI (ES c.head S _ h1' (by omega)) fun v' I' S w_=>?_
  rintro ⟨rfl,cs1,M1,rfl,rfl,hT1⟩ _ hI
  obtain ⟨k1,rfl,_⟩:=TrT.iff.1 hT1
  have e2:aB D 2 2=true->Value.agg #[.int .i64 c.head.kind,.int .i64 c.head.n,.string c.head.name,k1]=Value.agg #[.int .i64 c.head.kind,.int .i64 c.head.n,.string c.head.name,k1]/\TrT M1 [.int .i64 c.head.kind,.int .i64 c.head.n,.string c.head.name,k1] c.head:=fun _=>⟨rfl,hT1⟩
  have e6:=fun (h:D 6=true)=>(absurd h (by rw [f6]; decide):x9=.agg #[.int .i64 c.head.kind,.int .i64 c.head.n,.string c.head.name,k1,x8])
  have k5:=fun (_:aB D 2 5=true)=>(rfl:aB D 2 2=true)
  have hI:Inv w [] (mK (.blk b1 (.cells #[.int .i64 c.head.kind,.int .i64 c.head.n,.string c.head.name,kv,ks] ag)) (.blk b2 (.cells #[.int .i64 0,.int .i64 0,.string ⟨#[]⟩,.slice none 0 0,.slice none 0 0] ag)) (.blk b2 (.cells #[.int .i64 c.head.kind,.int .i64 c.head.n,.string c.head.name,k1,x8] ag)) M1 M2 true (D 5) (D 7)) S w_:=by
   rw [f5,f7]
   simpa [mK] using hI
  exact ⟨hF_.set 2 (by first|assumption|trivial),⟨M1,M2,k1,e2,e5,e6,k5,k6,k7,hI⟩⟩
 ·refine aC bo ?_
  exact ⟨hF_.set 3 rfl,⟨M1,M2,k1,e2,e5,e6,k5,k6,k7,hI⟩⟩
 ·obtain rfl:=cI ‹_›
  refine bb hI 0 ao rfl rfl ?_
  exact ⟨hF_.set 4 (by first|assumption|trivial),⟨M1,M2,k1,e2,e5,e6,k5,k6,k7,hI⟩⟩
 ·have Ij:=cN ‹_›
  have f6:D 6=false:=cq.2 fun h=>by rw [k6 h] at bI; cases bI
  have f7:D 7=false:=cq.2 fun h=>by rw [k7 h] at f6; cases f6
  rw [bI,‹D 2=true›,f7] at hI
  refine Run.call0 oa n7 hI (by rw [Ij]; exact rV h2 (by omega)) fun v' I' S w_=>?_
  rintro ⟨rfl,M2,rfl,hT2⟩ _ hI
  have e5:=fun (_:aB D 5 5=true)=>hT2
  have e6:=fun (h:D 6=true)=>(absurd h (by rw [f6]; decide):x9=.agg #[.int .i64 c.head.kind,.int .i64 c.head.n,.string c.head.name,k1,v'])
  have k6:=fun (_:aB D 5 6=true)=>(rfl:aB D 5 5=true)
  have k5:=fun (_:aB D 5 5=true)=>‹D 2=true›
  have hI:Inv w [] (mK (.blk b1 (.cells #[.int .i64 c.head.kind,.int .i64 c.head.n,.string c.head.name,kv,ks] ag)) (.blk b2 (.cells #[.int .i64 0,.int .i64 0,.string ⟨#[]⟩,.slice none 0 0,.slice none 0 0] ag)) (.blk b2 (.cells #[.int .i64 c.head.kind,.int .i64 c.head.n,.string c.head.name,k1,v'] ag)) M1 M2 (D 2) true (D 7)) S w_:=by
   rw [‹D 2=true›,f7]
   simpa [mK] using hI
  exact ⟨hF_.set 5 (by first|assumption|trivial),⟨M1,M2,k1,e2,e5,e6,k5,k6,k7,hI⟩⟩
 ·have RV:=cK ‹_›
  have NN:=cP ‹_›
  have q2:=(e2 ‹D 2=true›).1
  subst q2
  refine Dt (by obtain ⟨a8,cap8,hx8,_⟩:=e5 ‹D 5=true›; exact ⟨_,_,_,hx8⟩) ?_
  have e6:aB D 6 6=true->Value.agg #[.int .i64 c.head.kind,.int .i64 c.head.n,.string c.head.name,k1,x8]=Value.agg #[.int .i64 c.head.kind,.int .i64 c.head.n,.string c.head.name,k1,x8]:=fun _=>rfl
  have k7:=fun (_:aB D 6 7=true)=>(rfl:aB D 6 6=true)
  have k6:=fun (_:aB D 6 6=true)=>‹D 5=true›
  exact ⟨hF_.set 6 (by first|assumption|trivial),⟨M1,M2,k1,e2,e5,e6,k5,k6,k7,hI⟩⟩
 ·have M9:=cz ‹_›
  have q6:=e6 ‹D 6=true›
  subst q6
  have q2:=(e2 ‹D 2=true›).2
  have q5:=e5 ‹D 5=true›
  rw [bI,‹D 2=true›,‹D 5=true›] at hI
  refine aA hI 1 rfl be rfl rfl ?_ fun w_ hI=>?_
  ·intro u hu
   have hu':u∈([.int .i64 c.head.kind,.int .i64 c.head.n,.string c.head.name,k1,x8]:List Value):=hu
   simp at hu'
   have o1:k1.oneCell'=true:=q2.one k1 (by simp)
   have o2:x8.oneCell'=true:=by obtain ⟨a,cap,rfl,_⟩:=q5; rfl
   rcases hu' with rfl|rfl|rfl|rfl|rfl <;> first|rfl|exact o1|exact o2
  have k7:=fun (_:aB D 7 7=true)=>‹D 6=true›
  have hI:Inv w [] (mK (.blk b1 (.cells #[.int .i64 c.head.kind,.int .i64 c.head.n,.string c.head.name,kv,ks] ag)) (.blk b2 (.cells #[.int .i64 0,.int .i64 0,.string ⟨#[]⟩,.slice none 0 0,.slice none 0 0] ag)) (.blk b2 (.cells #[.int .i64 c.head.kind,.int .i64 c.head.n,.string c.head.name,k1,x8] ag)) M1 M2 (D 2) (D 5) true) S w_:=by
   rw [‹D 2=true›,‹D 5=true›]
   exact hI
  exact ⟨hF_.set 7 trivial,⟨M1,M2,k1,e2,e5,e6,k5,k6,k7,hI⟩⟩
 obtain ⟨rfl,rfl,RV,rfl,Ij,NN,M9,_,_⟩:=hF_.all
 have Um:D 2=true:=by assumption
 have PS:D 5=true:=by assumption
 have C5:D 7=true:=by assumption
 clear hF_ cJ cH cK cI cN cP cz dC
 have q2:=(e2 Um).2
 have q5:=e5 PS
 rw [Um,PS,C5] at hI
 refine bw hI 1 be rfl rfl ?_
 refine ⟨_,_,_,rfl,hI.sub (dz [_,_] (bj M1++bj M2)),Ext.refl _ _ _,rfl,_,M1++M2,rfl,by rw [dv],_,x8,M1,M2,rfl,rfl,q2,q5⟩
end
end
end Go.Proofs.YtcpgagfdeflbkaaGreatDoor
