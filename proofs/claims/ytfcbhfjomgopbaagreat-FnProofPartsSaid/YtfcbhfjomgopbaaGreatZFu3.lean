/- The row's reading of the arguments gives the reading of this proof; and what a law that returns true owes. -/
import Derived.Test.YtfcbhfjomgopbaaGreatZFu2
import Derived.Test.YtfcbhfjomgopbaaGreatRows
import Derived.ProofKit
import Derived.ReadAgain
import Derived.Carry
import Derived.Test.YtfcbhfjomgopbaaGreatZFuS
import Derived.Test.YtfcbhfjomgopbaaGreatZFuF
import Derived.Test.YtfcbhfjomgopbaaGreatZFugz
import Derived.Test.YtfcbhfjomgopbaaGreatZFu0
namespace Go.Proofs.YtfcbhfjomgopbaaGreat
section
open Go Go.ChangeShapes Go.WideShapes Go.ChangeAt Go.RowKit

def Nx (W:World):ae:=fun b=>W.heap[b]?
section
variable {H:Type} {enc:TypeId × Value->H} {P:Program} {W:World} {sp:Nat->Bool} {held:Bool}
theorem Oy {a:Addr} {v:Value} (h:W.cell? a=some v):∃ b o c E fz,a=⟨b,o,none⟩/\W.heap[b]?=some (.cells c E fz)/\c[o]?=some v:=by
 obtain ⟨b,o,s⟩:=a
 simp only [World.cell?] at h
 split at h
 ·rename_i c E fz hb
  cases s with
  | none=>exact ⟨b,o,c,E,fz,rfl,hb,by simpa using h⟩
  | some s=>simp at h
 ·cases h
theorem Pp {b o k:Nat} {cs:List Value} {c:Array Value} {E:TypeId} {fz:Nat × Nat} (hb:W.heap[b]?=some (.cells c E fz)) (h:W.cells? 0 ⟨b,o,none⟩ k=some cs):aH c o k=cs:=by
 unfold World.cells? at h
 rw [if_pos (Nat.zero_le _)] at h
 have hl:cs.length=k:=by simpa using mapM_some_length h
 apply List.ext_getElem?
 intro i
 rw [aH,List.getElem?_take]
 by_cases hi:i<k
 ·rw [if_pos hi,List.getElem?_drop]
  have:=mapM_some_get h i i (by simp [hi])
  rw [<- this,jg]
  simp [World.cell?,hb]
 ·rw [if_neg hi,List.getElem?_eq_none (by omega)]
theorem zB {α:Type} (p:Nat->α->Prop):∀ n:Nat,(∀ i,i<n->∃ t,p i t)->∃ xs:List α,xs.length=n/\∀ i (h:i<xs.length),p i xs[i]
 | 0,_=>⟨[],rfl,fun i h=>by simp at h⟩
 | n+1,h=>by
  obtain ⟨xs,hl,hx⟩:=zB p n fun i hi=>h i (by omega)
  obtain ⟨t,ht⟩:=h n (by omega)
  refine ⟨xs++[t],by simp [hl],fun i hi=>?_⟩
  by_cases e:i<xs.length
  ·rw [List.getElem_append_left e]
   exact hx i e
  ·have:i=xs.length:=by simp at hi; omega
   subst this
   simp only [List.getElem_append_right (Nat.le_refl _),Nat.sub_self,List.getElem_cons_zero]
   rw [hl]
   exact ht
theorem pX {T e:TypeId} {k:Nat} (h:cF P T=some (e,k)):P.underlying T=some (.slice e)/\P.cellsOf e=k:=by
 unfold cF at h
 split at h
 ·rename_i e' he
  rw [Option.map_eq_some_iff] at h
  obtain ⟨i,hi,hx⟩:=h
  simp only [Prod.mk.injEq] at hx
  obtain ⟨rfl,rfl⟩:=hx
  exact ⟨he,by simp [Program.cellsOf,hi]⟩
 ·cases h
theorem Qm {α:Type} {R:List Value->α->Prop} {T e:TypeId} {k fuel:Nat} {v:Value} {x:DataW H × List MemPlace} (hu:cF P T=some (e,k)) (hk0:0<k)
  (h:DataW.trod enc P W 0 sp held fuel T [v]=some x) (hel:∀ n cs y,fuel=n+1->DataW.trod enc P W 0 sp held n e cs=some y->∃ t:α,R cs t):∃ xs,RdSl (Nx W) k R v xs:=by
 obtain ⟨hu1,hk⟩:=pX hu
 rcases DataW.trod_slice hu1 h with ⟨hcs,_⟩|⟨a,len,cap,elems,rest,n,hf,hcs,_,_,hl,hc,hlen,hE,_⟩
 ·simp only [List.cons.injEq,and_true] at hcs
  subst hcs
  exact ⟨[],none,0,rfl,Nat.le_refl _,Nat.zero_le _,.inl rfl⟩
 ·simp only [List.cons.injEq,and_true] at hcs
  subst hcs
  have hE':∀ i,i<len->∃ t:α,∃ cs,W.cells? 0 (a.add (i * k)) k=some cs/\R cs t:=by
   intro i hi
   have:=hE i hi
   rw [hk,List.getElem?_eq_getElem (by omega),Option.bind_eq_some_iff] at this
   obtain ⟨cs,h1,h2⟩:=this
   obtain ⟨t,ht⟩:=hel n cs _ hf h2
   exact ⟨t,cs,h1,ht⟩
  obtain ⟨xs,hxl,hxs⟩:=zB _ len hE'
  subst hxl
  refine ⟨xs,some a,cap,rfl,hl,hc,?_⟩
  by_cases h0:xs.length=0
  ·exact .inl (List.eq_nil_of_length_eq_zero h0)
  ·obtain ⟨cs0,h1,_⟩:=hxs 0 (by omega)
   have e0:a.add (0 * k)=a:=by rw [Nat.zero_mul]; simp [Addr.add]
   rw [e0] at h1
   have hc0:∃ u,W.cell? a=some u:=by
    unfold World.cells? at h1
    rw [if_pos (Nat.zero_le _)] at h1
    have hl0:cs0.length=k:=by simpa using mapM_some_length h1
    have:=mapM_some_get h1 0 0 (by simp [hk0])
    rw [List.getElem?_eq_getElem (by omega)] at this
    have e1:a.add 0=a:=by simp [Addr.add]
    rw [e1] at this
    exact ⟨_,this⟩
   obtain ⟨u,hu0⟩:=hc0
   obtain ⟨b,o,c,E,fz,rfl,hb,_⟩:=Oy hu0
   refine .inr ⟨b,o,c,E,fz,rfl,hb,fun i hi=>?_⟩
   obtain ⟨cs,h2,hR⟩:=hxs i hi
   rw [jg] at h2
   rw [Pp hb h2]
   exact hR
end

section
variable {H:Type} {enc:TypeId × Value->H} {W:World} {sp:Nat->Bool} {held:Bool}
end

theorem Inv.entry (W:World):Inv W [] [] (Nx W) W:=Inv.start (L:=[]) (by simp) (by simp [bC]) fun b o hb=>⟨hb,by simp [bC]⟩
theorem Inv.same {W W':World} {L:List Item} {S:ae} (h:Inv W [] L S W') (b:Nat) (hb:b<W.heap.size):W'.heap[b]?=W.heap[b]?:=h.old b hb (by simp)
theorem Oj {W W':World} {may:MemPlace->Prop} (ho:W'.os=W.os) (hp:W'.output=W.output) (h:∀ b,b<W.heap.size->W'.heap[b]?=W.heap[b]?):W.keptBut W' may:=by
 refine ⟨ho,hp,fun i hi=>?_⟩
 rw [h i hi]
 split
 ·rename_i e1 e2
  rw [e1] at e2
  simp only [Option.some.injEq,Obj.cells.injEq] at e2
  obtain ⟨rfl,rfl,rfl⟩:=e2
  exact ⟨rfl,rfl,rfl,fun _ _=>rfl⟩
 ·rename_i e1 e2
  rw [e1] at e2
  simp only [Option.some.injEq,Obj.map.injEq] at e2
  obtain ⟨rfl,rfl⟩:=e2
  exact .inr ⟨rfl,rfl⟩
 ·rfl
end
section
open Go Go.RowKit
attribute [local irreducible] Run CondV aB aS
end
section
open Go Go.RowKit
attribute [local irreducible] Run CondV aB aS

mutual
def eqT:T->T->Bool
 | .mk k n s ks,.mk k' n' s' ks'=>decide (k=k') && (decide (n=n') && (decide (s=s') && eqL ks ks'))
def eqL:List T->List T->Bool
 | [],[]=>true
 | t::ts,u::us=>eqT t u && eqL ts us
 | _,_=>false
end
mutual
theorem Rw:∀ a b:T,eqT a b=true↔a=b
 | .mk k n s ks,.mk k' n' s' ks'=>by
  simp only [eqT,Bool.and_eq_true,decide_eq_true_eq,Ht ks ks',T.mk.injEq]
theorem Ht:∀ a b:List T,eqL a b=true↔a=b
 | [],[]=>by simp [eqL]
 | [],_::_=>by simp [eqL]
 | _::_,[]=>by simp [eqL]
 | t::ts,u::us=>by
  simp only [eqL,Bool.and_eq_true,Rw t u,Ht ts us,List.cons.injEq]
end
theorem Nm:∀ {a b:List T},a.length≠b.length->eqL a b=false:=by
 intro a b h
 rw [<- Bool.not_eq_true,Ht]
 rintro rfl
 exact h rfl
theorem Jk {a b c d e:Value}:∀ (j:Nat) (v:Value),([a,b,c,d]:List Value)[j]?=some v->(#[a,b,c,d,e]:Array Value)[0+j]?=some v
 | 0,_,h|1,_,h|2,_,h|3,_,h=>h
 | j+4,_,h=>by simp at h
end
section
open Go Go.RowKit
attribute [local irreducible] Run CondV aB aS

theorem Run.toClauseS {w w0:World} {X:List Nat} {L:List Item} {S:ae} {K:Value->World->Prop} {p:List C} {v:Value} (hI:Inv w0 X L S w) (h:RdSl S 5 (RdC S) v p) (hw:p.length+wP p<=1048576)
  (hk:∀ v' S' w',Sle S S'->RdSl S' 5 (RdC S') v' p->Inv w0 X L S' w'->K v' w'):Run Tryz.prog (eo (.func (.func tu) #[] #[]) [v]) w K:=by
 refine Run.call0 CL C1 hI (AJ h hw) fun v' I' S' w'=>?_
 rintro ⟨rfl,M,rfl,hT⟩ _ hI
 obtain ⟨S2,hI,hle,hins,_⟩:=Inv.publishAll M hI
 exact hk _ _ _ hle (hT.rd hins fun _ _ _ hi h=>h.rd hi) hI
theorem Run.toClause {w w0:World} {X:List Nat} {L:List Item} {S:ae} {K:Value->World->Prop} {c:C} {cs:List Value} (hI:Inv w0 X L S w) (h:RdC S cs c) (hw:wC c<=1048576)
  (hk:∀ cs' S' w',Sle S S'->RdC S' cs' c->Inv w0 X L S' w'->K (.agg cs'.toArray) w'):Run Tryz.prog (eo (.func (.func uT) #[] #[]) [.agg cs.toArray]) w K:=by
 refine Run.call0 tq sF hI (qf h hw) fun v' I' S' w'=>?_
 rintro ⟨rfl,cs',M,rfl,rfl,hT⟩ _ hI
 obtain ⟨S2,hI,hle,hins,_⟩:=Inv.publishAll M hI
 exact hk _ _ _ hle (hT.rd hins) hI
theorem Run.toTerm {w w0:World} {X:List Nat} {L:List Item} {S:ae} {K:Value->World->Prop} {t:T} {cs:List Value} (hI:Inv w0 X L S w) (h:RdT S cs t) (hw:wT t<=1048576)
  (hk:∀ cs' S' w',Sle S S'->RdT S' cs' t->Inv w0 X L S' w'->K (.agg cs'.toArray) w'):Run Tryz.prog (eo (.func (.func ul) #[] #[]) [.agg cs.toArray]) w K:=by
 refine Run.call0 p8 qQ hI (oH _ S _ h hw) fun v' I' S' w'=>?_
 rintro ⟨rfl,cs',M,rfl,rfl,hT⟩ _ hI
 obtain ⟨S2,hI,hle,hins,_⟩:=Inv.publishAll M hI
 exact hk _ _ _ hle (hT.rd hins) hI
theorem Run.toTermS {w w0:World} {X:List Nat} {L:List Item} {S:ae} {K:Value->World->Prop} {p:List T} {v:Value} (hI:Inv w0 X L S w) (h:RdSl S 4 (RdT S) v p) (hw:p.length+wL p<=1048576)
  (hk:∀ v' S' w',Sle S S'->RdSl S' 4 (RdT S') v' p->Inv w0 X L S' w'->K v' w'):Run Tryz.prog (eo (.func (.func qx) #[] #[]) [v]) w K:=by
 refine Run.call0 ou ot hI (sG h hw) fun v' I' S' w'=>?_
 rintro ⟨rfl,M,rfl,hT⟩ _ hI
 obtain ⟨S2,hI,hle,hins,_⟩:=Inv.publishAll M hI
 exact hk _ _ _ hle (hT.rd hins fun _ _ _ hi h=>h.rd hi) hI
end
section
open Go Go.ChangeShapes Go.WideShapes Go.ChangeAt Go.RowKit

inductive PF where
 | mk (goal:T) (clause:Int) (kids:List PF)
def PF.goal:PF->T
 | .mk g _ _=>g
def PF.clause:PF->Int
 | .mk _ c _=>c
def PF.kids:PF->List PF
 | .mk _ _ ks=>ks
theorem PF.ind {p:PF->Prop} (h:∀ g c ks,(∀ t∈ks,p t)->p (.mk g c ks)) (t:PF):p t:=
 PF.rec (motive_1:=p) (motive_2:=fun l=>∀ t∈l,p t) (fun g c ks ih=>h g c ks ih) (by simp) (fun a l h1 h2 t ht=>by
  rcases List.mem_cons.1 ht with rfl|ht
  ·exact h1
  ·exact h2 t ht) t
inductive RdF (S:ae):List Value->PF->Prop
 | nil {a0 a1 a2 a3:Value} {g:T} {c:Int} {a:Option Addr} {cap:Nat} (hg:RdT S [a0,a1,a2,a3] g) (hn:inI c) (hc:cap<=maxLen) :
   RdF S [a0,a1,a2,a3,.int .i64 c,.slice a 0 cap] (.mk g c [])
 | cons {a0 a1 a2 a3:Value} {g:T} {n:Int} {kids:List PF} {b o cap:Nat} {c:Array Value} {E:TypeId} {fz:Nat × Nat} (hg:RdT S [a0,a1,a2,a3] g) (hn:inI n) (hl:kids.length<=cap) (hc:cap<=maxLen)
   (hS:S b=some (.cells c E fz)) (h:∀ i (h:i<kids.length),RdF S (aH c (o+i * 6) 6) kids[i]) :
   RdF S [a0,a1,a2,a3,.int .i64 n,.slice (some ⟨b,o,none⟩) kids.length cap] (.mk g n kids)
theorem RdF.iff {S:ae} {cs:List Value} {x:PF}:RdF S cs x ↔
  ∃ kv ks,cs=[.int .i64 x.goal.kind,.int .i64 x.goal.n,.string x.goal.name,kv,.int .i64 x.clause,ks]/\RdT S [.int .i64 x.goal.kind,.int .i64 x.goal.n,.string x.goal.name,kv] x.goal/\inI x.clause/\RdSl S 6 (RdF S) ks x.kids:=by
 constructor
 ·intro h
  cases h with
  | nil hg hn hc=>
   obtain ⟨kv,e,_⟩:=RdT.iff.1 hg
   simp only [List.cons.injEq,and_true] at e
   obtain ⟨rfl,rfl,rfl,rfl⟩:=e
   exact ⟨_,_,rfl,hg,hn,_,_,rfl,Nat.zero_le _,hc,.inl rfl⟩
  | cons hg hn hl hc hS h=>
   obtain ⟨kv,e,_⟩:=RdT.iff.1 hg
   simp only [List.cons.injEq,and_true] at e
   obtain ⟨rfl,rfl,rfl,rfl⟩:=e
   exact ⟨_,_,rfl,hg,hn,_,_,rfl,hl,hc,.inr ⟨_,_,_,_,_,rfl,hS,h⟩⟩
 ·obtain ⟨g,n,kids⟩:=x
  rintro ⟨kv,ks,rfl,hg,hn,a,cap,rfl,hl,hc,h⟩
  rcases h with h|⟨b,o,c,E,fz,rfl,hS,h⟩
  ·simp only [PF.kids] at h
   subst h
   exact RdF.nil hg hn hc
  ·exact RdF.cons hg hn hl hc hS h
theorem RdF.length {S:ae} {cs:List Value} {x:PF} (h:RdF S cs x):cs.length=6:=by
 obtain ⟨_,_,rfl,_⟩:=RdF.iff.1 h; rfl
theorem RdF.one {S:ae} {cs:List Value} {x:PF} (h:RdF S cs x):∀ u∈cs,u.oneCell'=true:=by
 obtain ⟨kv,ks,rfl,hg,_,a,cap,rfl,_⟩:=RdF.iff.1 h
 have:=hg.one kv (by simp)
 intro u hu
 simp at hu
 rcases hu with rfl|rfl|rfl|rfl|rfl|rfl <;> first|rfl|exact this
theorem RdF.mono {S S':ae} (hs:Sle S S') {cs:List Value} {x:PF} (h:RdF S cs x):RdF S' cs x:=by
 induction h with
 | nil hg hn hc=>exact RdF.nil (hg.mono hs) hn hc
 | cons hg hn hl hc hS _ ih=>exact RdF.cons (hg.mono hs) hn hl hc (hs _ _ hS) ih
inductive TrF:bh->List Value->PF->Prop
 | nil {L:bh} {a0 a1 a2 a3:Value} {g:T} {n:Int} {a:Option Addr} {cap:Nat} (hg:TrT L [a0,a1,a2,a3] g) (hn:inI n) (hc:cap<=maxLen) :
   TrF L [a0,a1,a2,a3,.int .i64 n,.slice a 0 cap] (.mk g n [])
 | cons {L:bh} {a0 a1 a2 a3:Value} {g:T} {n:Int} {kids:List PF} {b cap:Nat} {c:Array Value} {E:TypeId} {Ls:List bh} (hg:TrT L [a0,a1,a2,a3] g) (hn:inI n) (hl:kids.length<=cap) (hc:cap<=maxLen)
   (hLs:Ls.length=kids.length) (hsz:cap * 6<=c.size) (h:∀ i (h:i<kids.length) (h':i<Ls.length),TrF Ls[i] (aH c (i * 6) 6) kids[i]) :
   TrF (L++(b,.cells c E)::Ls.flatten) [a0,a1,a2,a3,.int .i64 n,.slice (some ⟨b,0,none⟩) kids.length cap] (.mk g n kids)
theorem TrF.iff {L:bh} {cs:List Value} {x:PF}:TrF L cs x ↔
  ∃ L1 L2 kv ks,L=L1++L2/\cs=[.int .i64 x.goal.kind,.int .i64 x.goal.n,.string x.goal.name,kv,.int .i64 x.clause,ks]/\TrT L1 [.int .i64 x.goal.kind,.int .i64 x.goal.n,.string x.goal.name,kv] x.goal/\inI x.clause/\TrSl 6 TrF L2 ks x.kids:=by
 constructor
 ·intro h
  cases h with
  | nil hg hn hc=>
   obtain ⟨kv,e,_⟩:=TrT.iff.1 hg
   simp only [List.cons.injEq,and_true] at e
   obtain ⟨rfl,rfl,rfl,rfl⟩:=e
   exact ⟨_,[],_,_,(List.append_nil _).symm,rfl,hg,hn,_,_,rfl,Nat.zero_le _,hc,.inl ⟨rfl,rfl⟩⟩
  | cons hg hn hl hc hLs hsz h=>
   obtain ⟨kv,e,_⟩:=TrT.iff.1 hg
   simp only [List.cons.injEq,and_true] at e
   obtain ⟨rfl,rfl,rfl,rfl⟩:=e
   exact ⟨_,_,_,_,rfl,rfl,hg,hn,_,_,rfl,hl,hc,.inr ⟨_,_,_,_,rfl,rfl,hLs,hsz,h⟩⟩
 ·obtain ⟨g,n,kids⟩:=x
  rintro ⟨L1,L2,kv,ks,rfl,rfl,hg,hn,a,cap,rfl,hl,hc,h⟩
  rcases h with ⟨h,rfl⟩|⟨b,c,E,Ls,rfl,rfl,hLs,hsz,h⟩
  ·simp only [PF.kids] at h
   subst h
   rw [List.append_nil]
   exact TrF.nil hg hn hc
  ·exact TrF.cons hg hn hl hc hLs hsz h
theorem TrF.length {L:bh} {cs:List Value} {x:PF} (h:TrF L cs x):cs.length=6:=by
 obtain ⟨_,_,_,_,_,rfl,_⟩:=TrF.iff.1 h; rfl
theorem TrF.one {L:bh} {cs:List Value} {x:PF} (h:TrF L cs x):∀ u∈cs,u.oneCell'=true:=by
 obtain ⟨_,_,kv,ks,_,rfl,hg,_,a,cap,rfl,_⟩:=TrF.iff.1 h
 have:=hg.one kv (by simp)
 intro u hu
 simp at hu
 rcases hu with rfl|rfl|rfl|rfl|rfl|rfl <;> first|rfl|exact this
theorem TrF.rd {S:ae} {L:bh} {cs:List Value} {x:PF} (h:TrF L cs x) (hi:Ins S L):RdF S cs x:=by
 induction h with
 | nil hg hn hc=>exact RdF.nil (hg.rd hi) hn hc
 | cons hg hn hl hc hLs hsz h ih=>
  refine RdF.cons (hg.rd hi.left) hn hl hc (hi.right _ (List.mem_cons_self ..)) (o:=0) fun i h1=>?_
  rw [Nat.zero_add]
  exact ih i h1 (by omega) (AZ (fun p hp=>hi.right p (List.mem_cons_of_mem _ hp)) (by omega))
mutual
def wF:PF->Nat
 | .mk g _ ks=>wT g+ks.length+wFL ks
def wFL:List PF->Nat
 | []=>0
 | t::ts=>wF t+wFL ts
end
theorem Ba:∀ {ts:List PF} {t:PF},t∈ts->wF t<=wFL ts
 | x::xs,t,h=>by
  simp only [wFL]
  rcases List.mem_cons.1 h with rfl|h
  ·omega
  ·have:=Ba h; omega
theorem sH {a b c d e f:Value}:∀ (j:Nat) (v:Value),([a,b,c,d]:List Value)[j]?=some v->(#[a,b,c,d,e,f]:Array Value)[0+j]?=some v
 | 0,_,h|1,_,h|2,_,h|3,_,h=>h
 | j+4,_,h=>by simp at h
section
attribute [local irreducible] Run CondV aB aS
end
section
variable {H:Type} {enc:TypeId × Value->H} {W:World} {sp:Nat->Bool} {held:Bool}
end
end
section
open Go Go.RowKit
section
attribute [local irreducible] Run CondV aB aS
theorem tK {σ:Type} {f:FuncId} {fn:Func} {cap:List Value} {S:ae} {It:σ->List Item} {ok:σ->Prop} {step:σ->PF->Bool × σ} {xs:List PF} {v:Value}
  (hcb:Cb Tryz.prog f fn cap S It ok step (fun v x=>∃ cs,v=.agg cs.toArray/\RdF S cs x) xs) (h:RdSl S 6 (RdF S) v xs) {st:σ} (hok:ok st) :
  Tri Tryz.prog r3 [v,fv f cap] (It st) S fun r I' S'=>r=.int .i64 (cX step st xs 0).1/\I'=It (cX step st xs 0).2/\S'=S:=by
 intro w hI
 have hlen:=h.le
 simp only [maxLen] at hlen
 refine jD.2 ?_
 dsimp only[jD,aW]
 refine aC h bz ?_
 refine ⟨fun i w'=>∃ (k:Nat) (st':σ),k<=xs.length/\i=.int .i64 k/\ok st'/\cX step st' (xs.drop k) k=cX step st xs 0/\Inv w (bC (It st)) (It st') S w',fun i _=>xs.length - (intOf i).toNat,
  ⟨0,st,Nat.zero_le _,rfl,hok,rfl,hI⟩,?_⟩
 intro t8 _ _ _ _ _ _ _ _ _ _ _ _ w'
 rintro ⟨k,st',hk,rfl,hok',hrel,hI⟩
 refine bq ?_
 refine aI (fun hki=>?_) (fun hki=>?_)
 ·have hk':k<xs.length:=by omega
  have hm:=List.getElem_mem hk'
  have hstep:cX step st' (xs.drop k) k=if (step st' xs[k]).1 then ((k:Int),(step st' xs[k]).2) else cX step (step st' xs[k]).2 (xs.drop (k+1)) (k+1):=by
   rw [List.drop_eq_getElem_cons hk',cX]
  refine bY hI h bz aN hk' (fun _ _=>RdF.length) fun cs hcs=>?_
  refine Run.callV (A:=[]) (args:=[.agg cs.toArray]) hcb.hf hcb.hn (by simpa using hI) (hcb.call st' _ _ hm hok' ⟨cs,rfl,hcs⟩) fun v' I' S' w'=>?_
  rintro ⟨rfl,rfl,rfl⟩ _ hI
  refine az (fun hb=>?_) (fun hb=>?_)
  ·rw [if_pos hb] at hstep
   refine ⟨_,_,_,rfl,by simpa using hI,Ext.refl _ _ _,?_,?_,rfl⟩
   ·rw [<- hrel,hstep]
   ·rw [<- hrel,hstep]
  ·refine bl (by omega) ?_
   rw [hb] at hstep
   refine ⟨⟨k+1,_,hk',rfl,hcb.keep st' _ hm hok' hb,?_,by simpa using hI⟩,by simp [intOf]; omega⟩
   rw [<- hrel,hstep]
   rfl
 ·have:k=xs.length:=by omega
  subst this
  rw [List.drop_length,cX] at hrel
  exact ⟨_,_,_,rfl,hI,Ext.refl _ _ _,by rw [<- hrel],by rw [<- hrel],rfl⟩
theorem pB {σ:Type} {f:FuncId} {fn:Func} {cap:List Value} {S:ae} {It:σ->List Item} {ok:σ->Prop} {step:σ->PF->Bool × σ} {xs:List PF} {v:Value}
  (hcb:Cb Tryz.prog f fn cap S It ok step (fun v x=>∃ cs,v=.agg cs.toArray/\RdF S cs x) xs) (h:RdSl S 6 (RdF S) v xs) {st:σ} (hok:ok st) :
  Tri Tryz.prog oz [v,fv f cap] (It st) S fun r I' S'=>r=.bool (lQ step st xs).1/\I'=It (lQ step st xs).2/\S'=S:=by
 intro w hI
 refine hH.2 ?_
 dsimp only[hH,aW]
 refine Run.call (A:=[]) qi qO (by simpa using hI) (tK hcb h hok) fun v' I' S' w'=>?_
 rintro ⟨rfl,rfl,rfl⟩ _ hI
 refine fw ?_
 have he:=kS step xs st 0
 exact ⟨_,_,_,rfl,by simpa using hI,Ext.refl _ _ _,by rw [he.1],by rw [he.2],rfl⟩
end
def xu (g:T) (c:Int) (l:Nat):Bool:=ek g && ((decide (-1<=c) && decide (c<=19)) && decide (l<=6))
mutual
def fP:PF->Int->Int->Bool × Int
 | .mk g c ks,deep,n=>if 60<n+1 ∨ 20<deep then (false,n+1) else if xu g c ks.length=true then gT ks (deep+1) (n+1) else (false,n+1)
def gT:List PF->Int->Int->Bool × Int
 | [],_,n=>(true,n)
 | t::ts,deep,n=>if (fP t deep n).1 then gT ts deep (fP t deep n).2 else (false,(fP t deep n).2)
end
mutual
def mP:PF->Int->Bool
 | .mk g c ks,d=>decide (1<=d) && (xu g c ks.length && nG ks (d - 1))
def nG:List PF->Int->Bool
 | [],_=>true
 | t::ts,d=>mP t d && nG ts d
end
mutual
def jH:PF->Int
 | .mk _ _ ks=>1+fu ks
def fu:List PF->Int
 | []=>0
 | t::ts=>jH t+fu ts
end
def dO (x:PF):Bool:=mP x 20 && decide (jH x<=60)
mutual
theorem qe:∀ t:PF,1<=jH t
 | .mk _ _ ks=>by
  have:=kK ks
  rw [jH]; omega
theorem kK:∀ ts:List PF,0<=fu ts
 | []=>Int.le_refl _
 | t::ts=>by
  have h1:=qe t
  have h2:=kK ts
  rw [fu]; omega
end
mutual
theorem wy:∀ (t:PF) (deep n:Int),(fP t deep n).1=(mP t (21 - deep) && decide (n+jH t<=60))/\((fP t deep n).1=true->(fP t deep n).2=n+jH t)
 | .mk g c ks,deep,n=>by
  have hl:=kK ks
  rw [fP,mP,jH]
  by_cases h1:60<n+1 ∨ 20<deep
  ·rw [if_pos h1]
   refine ⟨?_,fun h=>by cases h⟩
   rcases h1 with h1|h1
   ·rw [decide_eq_false (show ¬ (n+(1+fu ks)<=60) by omega),Bool.and_false]
   ·rw [decide_eq_false (show ¬ (1<=21 - deep) by omega)]; rfl
  ·rw [if_neg h1,decide_eq_true (show 1<=21 - deep by omega),Bool.true_and]
   cases hn:xu g c ks.length with
   | false=>exact ⟨rfl,fun h=>by cases h⟩
   | true=>
    rw [if_pos rfl,Bool.true_and]
    have:=Fo ks (deep+1) (n+1)
    rw [show 21 - (deep+1)=21 - deep - 1 by omega] at this
    rw [show n+(1+fu ks)=n+1+fu ks by omega]
    refine ⟨?_,this.2⟩
    rw [this.1]
    cases ks with
    | nil=>rw [show fu []=0 from rfl,decide_eq_true (show n+1+0<=60 by omega)]; rfl
    | cons t ts=>simp
theorem Fo:∀ (ts:List PF) (deep n:Int),(gT ts deep n).1=(nG ts (21 - deep) && (ts.isEmpty || decide (n+fu ts<=60)))/\((gT ts deep n).1=true->(gT ts deep n).2=n+fu ts)
 | [],deep,n=>by simp [gT,nG,fu]
 | t::ts,deep,n=>by
  have ht:=wy t deep n
  have hp:=kK ts
  rw [gT,nG,fu,List.isEmpty_cons,Bool.false_or]
  cases h1:(fP t deep n).1 with
  | false=>
   rw [h1] at ht
   have h2:=ht.1
   refine ⟨?_,fun h=>by cases h⟩
   simp only [Bool.false_eq_true,if_false]
   cases hs:mP t (21 - deep) with
   | false=>rfl
   | true=>
    rw [hs,Bool.true_and] at h2
    have:¬ (n+jH t<=60):=of_decide_eq_false h2.symm
    rw [decide_eq_false (show ¬ (n+(jH t+fu ts)<=60) by omega),Bool.and_false]
  | true=>
   rw [h1] at ht
   have h2:=ht.1
   have h3:=ht.2 rfl
   simp only [if_true]
   rw [h3]
   have hs:mP t (21 - deep)=true/\n+jH t<=60:=by
    have:=h2.symm
    simpa using this
   have hl:=Fo ts deep (n+jH t)
   rw [show n+(jH t+fu ts)=n+jH t+fu ts by omega]
   refine ⟨?_,hl.2⟩
   rw [hl.1,hs.1,Bool.true_and]
   cases ts with
   | nil=>rw [show fu []=0 from rfl,decide_eq_true (show n+jH t+0<=60 by omega)]; rfl
   | cons u us=>simp
end
theorem qG (t:PF):(fP t 1 0).1=dO t:=by
 rw [(wy t 1 0).1,dO]
 simp
theorem JM:∀ (t:PF) (deep n:Int),n<=60->(fP t deep n).1=true->n<(fP t deep n).2/\(fP t deep n).2<=60:=by
 intro t deep n hn h
 have:=wy t deep n
 rw [this.2 h]
 have h1:=this.1
 rw [h] at h1
 have h2:=h1.symm
 simp at h2
 have:=qe t
 omega
theorem Cp (deep:Int):∀ (ks:List PF) (n:Int),lQ (fun n t=>(!(fP t deep n).1,(fP t deep n).2)) n ks=(!(gT ks deep n).1,(gT ks deep n).2)
 | [],n=>by simp [lQ,gT]
 | t::ts,n=>by
  by_cases h:(fP t deep n).1=true
  ·simp [lQ,gT,h,Cp deep ts]
  ·simp [lQ,gT,h]
mutual
def th:PF->Int->Int
 | .mk _ _ ks,m=>iZ ks 1 m
def iZ:List PF->Int->Int->Int
 | [],n,_=>n
 | t::ts,n,m=>if n<=m then iZ ts (n+th t (m - n)) m else n
end
mutual
theorem Bm:∀ (t:PF) (m:Int),0<=m->1<=th t m/\th t m<=m+1/\(jH t<=m->th t m=jH t)/\(m<jH t->m<th t m)
 | .mk g c ks,m,hm=>by
  have h:=Fy ks 1 m hm (by omega) (by omega)
  rw [th,jH]
  exact h
theorem Fy:∀ (ts:List PF) (n m:Int),0<=m->1<=n->n<=m+1->1<=iZ ts n m/\iZ ts n m<=m+1/\(n+fu ts<=m->iZ ts n m=n+fu ts)/\(m<n+fu ts->m<iZ ts n m)
 | [],n,m,hm,hn,hn2=>by rw [iZ,fu]; omega
 | t::ts,n,m,hm,hn,hn2=>by
  have hp:=kK ts
  have hp1:=qe t
  rw [iZ,fu]
  split
  ·rename_i hle
   obtain ⟨h1,h2,h3,h4⟩:=Bm t (m - n) (by omega)
   obtain ⟨g1,g2,g3,g4⟩:=Fy ts (n+th t (m - n)) m hm (by omega) (by omega)
   refine ⟨g1,g2,fun h=>?_,fun h=>?_⟩
   ·have:=h3 (by omega)
    rw [g3 (by omega)]
    omega
   ·by_cases hc:jH t<=m - n
    ·have:=h3 hc
     exact g4 (by omega)
    ·have:=h4 (by omega)
     exact g4 (by omega)
  ·omega
end
theorem PH (t:PF):decide (th t 60<=60)=decide (jH t<=60):=by
 obtain ⟨_,_,h3,h4⟩:=Bm t 60 (by omega)
 rw [decide_eq_decide]
 constructor
 ·intro h
  rcases Int.lt_or_le 60 (jH t) with h5|h5
  ·have:=h4 h5; omega
  ·exact h5
 ·intro h
  rw [h3 h]; exact h
section
attribute [local irreducible] Run CondV aB aS
theorem pl:∀ (t:PF) (S:ae) (cs:List Value) (deep n:Int) (bc:Nat),RdF S cs t->0<=deep->deep<=21->0<=n->n<=60->
  Tri Tryz.prog D3 [.agg cs.toArray,.int .i64 deep,.pointer (some ⟨bc,0,none⟩)] [eQ bc n] S (oe bc S (fP t deep n)):=by
 refine PF.ind fun g c ks ih S cs deep n bc h hd0 hd1 hc0 hc1=>?_
 intro w hI
 obtain ⟨kv,kf,rfl,hg,hc,hks⟩:=RdF.iff.1 h
 simp only [PF.goal,PF.kids,PF.clause] at hg hc hks ⊢
 have hend:∀ {L:List Item} {w':World} {v:Value} (r:Bool × Int),Inv w (bC [eQ bc n]) (eQ bc r.2::L) S w'->v=.bool r.1->r=fP (.mk g c ks) deep n->
   ∃ v' I' S',Ending.returned v=.returned v'/\Inv w (bC [eQ bc n]) I' S' w'/\Ext w.heap.size (bC [eQ bc n]) S S'/\oe bc S (fP (.mk g c ks) deep n) v' I' S':=by
  intro L w' v r h1 h2 h3
  subst h3
  exact ⟨_,_,_,rfl,h1.pick [true],Ext.refl _ _ _,h2,rfl,rfl⟩
 refine qM.2 ?_
 dsimp only[qM,cW]
 refine bf hI fun b3 w' hI=>?_
 refine bf hI fun b4 w' hI=>?_
 refine bf hI fun b5 w' hI=>?_
 refine aA hI 3 rC rfl rfl ?_
 refine bF ?_
 refine aA hI 0 av rfl rfl ?_
 refine bl (by omega) ?_
 refine bF ?_
 refine dA hI 0 (n:=1) rfl (by rw [av]; rfl) rfl (Nat.le_of_ble_eq_true rfl) (by simp [Value.cells]; rfl) fun w' hI=>?_
 have hI:Inv w (bC [eQ bc n]) [eQ bc (n+1),.blk b3 (.cells #[.int .i64 g.kind,.int .i64 g.n,.string g.name,kv,.int .i64 c,kf] ag),.blk b4 (.cells #[.int .i64 deep] bZ),.blk b5 (.cells #[.pointer (some ⟨bc,0,none⟩)] gG)] S w':=hI
 have hkl:decide ((6:Int)<(ks.length:Int))=!decide (ks.length<=6):=by
  rw [<- decide_not,decide_eq_decide]; omega
 refine ⟨fun t w'=>t=.bool (decide (60<n+1 ∨ 20<deep) || !xu g c ks.length)/\Inv w (bC [eQ bc n]) [eQ bc (n+1),.blk b3 (.cells #[.int .i64 g.kind,.int .i64 g.n,.string g.name,kv,.int .i64 c,kf] ag),.blk b4 (.cells #[.int .i64 deep] bZ),.blk b5 (.cells #[.pointer (some ⟨bc,0,none⟩)] gG)] S w',?_,?_⟩
 ·refine aA hI 3 rC rfl rfl ?_
  refine bF ?_
  refine aA hI 0 av rfl rfl ?_
  refine dl ?_
  cases h1:decide ((60:Int)<n+1)
  ·have h1:=of_decide_eq_false h1
   refine rpG ?_
   refine aA hI 2 av rfl rfl ?_
   refine dl ?_
   cases h2:decide ((20:Int)<deep)
   ·have h2:=of_decide_eq_false h2
    rw [decide_eq_false (fun h=>h.elim h1 h2),Bool.false_or,xu]
    refine rpG ?_
    refine ai cQ ?_
    refine b0 hI 1 [_,_,_,_] ac rfl rfl sH ?_
    refine Run.callPure qP pR hI (nn hg) fun w' hI=>?_
    refine bK ?_
    cases h3:ek g
    ·refine rpG ?_
     exact ⟨rfl,hI⟩
    refine rpG ?_
    refine ad hI 1 rfl cA av rfl ?_
    refine Run.callPure g7 g0 hI (gw _ _ _ S) fun w' hI=>?_
    refine bK ?_
    cases h4:(decide (-1<=c) && decide (c<=19))
    ·refine rpG ?_
     exact ⟨rfl,hI⟩
    refine rpG ?_
    refine ad hI 1 rfl be bk rfl ?_
    refine aC hks bz ?_
    refine dl ?_
    rw [hkl]
    refine rpG ?_
    exact ⟨rfl,hI⟩
   ·refine rpG ?_
    rw [decide_eq_true (.inr (of_decide_eq_true h2)),Bool.true_or]
    exact ⟨rfl,hI⟩
  ·refine rpG ?_
   rw [decide_eq_true (.inl (of_decide_eq_true h1)),Bool.true_or]
   exact ⟨rfl,hI⟩
 intro q _ _ _ _ _ _ _ _ _ _ _ _ _ _ _ _ _ _ _ _ _ _ _ _ _ w'
 rintro ⟨rfl,hI⟩
 refine az (fun hb=>?_) (fun hb=>?_)
 ·refine hend (false,n+1) hI rfl ?_
  rw [fP]
  by_cases h1:60<n+1 ∨ 20<deep
  ·rw [if_pos h1]
  ·rw [decide_eq_false h1,Bool.false_or,Bool.not_eq_true'] at hb
   rw [if_neg h1,hb]
   rfl
 ·rw [Bool.or_eq_false_iff,Bool.not_eq_false'] at hb
  have hsc:fP (.mk g c ks) deep n=gT ks (deep+1) (n+1):=by
   rw [fP,if_neg (of_decide_eq_false hb.1),if_pos hb.2]
  have hn60:=of_decide_eq_false hb.1
  refine ad hI 1 rfl be bk rfl ?_
  refine tU ?_
  have hcb:Cb Tryz.prog AG Tryz.f66 [.pointer (some ⟨b4,0,none⟩),.pointer (some ⟨b5,0,none⟩)] S
    (fun c:Int=>[eQ bc c,.blk b4 (.cells #[.int .i64 deep] bZ),.blk b5 (.cells #[.pointer (some ⟨bc,0,none⟩)] gG)]) (fun c=>0<=c/\c<=60)
    (fun c t=>(!(fP t (deep+1) c).1,(fP t (deep+1) c).2)) (fun v x=>∃ cs,v=.agg cs.toArray/\RdF S cs x) ks:=by
   refine ⟨xX,xP,fun st x _ hst hf=>?_,fun st x v hx hst=>?_⟩
   ·have:=JM x (deep+1) st hst.2 (by simpa using hf)
    omega
   ·rintro ⟨cs,rfl,hcs⟩ w1 hI
    have hl:=hcs.length
    refine nF.2 ?_
    dsimp only[nF,cW]
    refine bf hI fun b w' hI=>?_
    refine ao hI 3 aN rfl (by simpa [Value.cells] using hl) ?_
    refine aA hI 1 av rfl rfl ?_
    refine bl (by omega) ?_
    refine aA hI 2 rC rfl rfl ?_
    have hI:=hI.perm (M:=[.blk b4 (.cells #[.int .i64 deep] bZ),.blk b5 (.cells #[.pointer (some ⟨bc,0,none⟩)] gG),.blk b (.cells (Value.agg cs.toArray).cells ag)]++[eQ bc st])
     (List.perm_append_comm (l₁:=[_,_,_]) (l₂:=[eQ bc st]))
    refine Run.call lO lj hI (ih x hx S cs (deep+1) st bc hcs (by omega) (by omega) hst.1 hst.2) fun v' I' S' w'=>?_
    rintro ⟨rfl,rfl,rfl⟩ _ hI
    refine bK ?_
    have hI:=(hI.perm (M:=[eQ bc (fP x (deep+1) st).2]++[.blk b4 (.cells #[.int .i64 deep] bZ),.blk b5 (.cells #[.pointer (some ⟨bc,0,none⟩)] gG),.blk b (.cells (Value.agg cs.toArray).cells ag)])
     List.perm_append_comm).pick [true,true,true,false]
    exact ⟨_,_,_,rfl,hI,Ext.refl _ _ _,rfl,rfl,rfl⟩
  have hI:=hI.perm (M:=[.blk b3 (.cells #[.int .i64 g.kind,.int .i64 g.n,.string g.name,kv,.int .i64 c,kf] ag)]++[eQ bc (n+1),.blk b4 (.cells #[.int .i64 deep] bZ),.blk b5 (.cells #[.pointer (some ⟨bc,0,none⟩)] gG)]) (List.Perm.swap _ _ _)
  refine Run.call nR oc hI (pB hcb hks ⟨by omega,by omega⟩) fun v' I' S' w'=>?_
  rintro ⟨rfl,rfl,rfl⟩ _ hI
  refine bK ?_
  rw [Cp] at hI ⊢
  have hI:=hI.perm (M:=[eQ bc (gT ks (deep+1) (n+1)).2,.blk b3 (.cells #[.int .i64 g.kind,.int .i64 g.n,.string g.name,kv,.int .i64 c,kf] ag),.blk b4 (.cells #[.int .i64 deep] bZ),.blk b5 (.cells #[.pointer (some ⟨bc,0,none⟩)] gG)]) (List.Perm.swap _ _ _)
  exact hend (gT ks (deep+1) (n+1)) hI (by simp) hsc.symm
theorem mz {t:PF} {S:ae} {cs:List Value} (h:RdF S cs t):Pure Tryz.prog Bv [.agg cs.toArray] S (.bool (dO t)):=by
 intro w hI
 have hl:=h.length
 refine pj.2 ?_
 dsimp only[pj,aL]
 refine bf hI fun b1 w' hI=>?_
 refine aD hI K2 fun b2 w' hI=>?_
 refine dA hI 1 (n:=1) rfl (by rw [av]; rfl) rfl (Nat.le_of_ble_eq_true rfl) (by simp [Value.cells]; rfl) fun w' hI=>?_
 refine ao hI 0 aN rfl (by simpa [Value.cells] using hl) ?_
 refine Run.call (A:=[_]) (I:=[eQ b2 0]) lO lj hI (pl t S cs 1 0 b2 h (by omega) (by omega) (by omega) (by omega)) fun v' I' S' w'=>?_
 rintro ⟨rfl,rfl,rfl⟩ _ hI
 exact done hI (by rw [qG])
theorem BR:∀ (t:PF) (S:ae) (cs:List Value) (d:Int),RdF S cs t->wF t<=1048576->-100<=d->d<=100->Pure Tryz.prog Hw [.agg cs.toArray,.int .i64 d] S (.bool (mP t d)):=by
 refine PF.ind fun g c ks ih S cs d h hw hd0 hd1=>?_
 intro w hI
 obtain ⟨kv,kf,rfl,hg,hc,hks⟩:=RdF.iff.1 h
 simp only [PF.goal,PF.kids,PF.clause] at hg hc hks ⊢
 have hlen:=hks.le
 simp only [maxLen] at hlen
 rw [wF] at hw
 rw [mP]
 refine sB.2 ?_
 dsimp only[sB,aW]
 refine bf hI fun b2 w' hI=>?_
 have hI:Inv w [] [.blk b2 (.cells #[.int .i64 g.kind,.int .i64 g.n,.string g.name,kv,.int .i64 c,kf] ag)] S w':=hI
 have hkl:decide ((6:Int)<(ks.length:Int))=!decide (ks.length<=6):=by
  rw [<- decide_not,decide_eq_decide]; omega
 have hcl:decide (c < -1)=!decide (-1<=c):=by rw [<- decide_not,decide_eq_decide]; omega
 have hcg:decide ((20:Int)<=c)=!decide (c<=19):=by rw [<- decide_not,decide_eq_decide]; omega
 have hdl:decide (d<1)=!decide (1<=d):=by rw [<- decide_not,decide_eq_decide]; omega
 refine ⟨fun t w'=>t=.bool (!(decide (1<=d) && xu g c ks.length))/\Inv w [] [.blk b2 (.cells #[.int .i64 g.kind,.int .i64 g.n,.string g.name,kv,.int .i64 c,kf] ag)] S w',?_,?_⟩
 ·refine bq ?_
  rw [hdl,xu]
  cases h1:decide (1<=d)
  ·refine rpG ?_
   exact ⟨rfl,hI⟩
  refine rpG ?_
  refine ai cQ ?_
  refine b0 hI 0 [_,_,_,_] ac rfl rfl sH ?_
  refine Run.callPure lP kN hI (i8 hg (by omega)) fun w' hI=>?_
  refine bK ?_
  cases h3:ek g
  ·refine rpG ?_
   exact ⟨rfl,hI⟩
  refine rpG ?_
  refine ad hI 0 rfl cA av rfl ?_
  refine bq ?_
  rw [hcl]
  cases h4:decide (-1<=c)
  ·refine rpG ?_
   exact ⟨rfl,hI⟩
  refine rpG ?_
  refine ad hI 0 rfl cA av rfl ?_
  refine fw ?_
  rw [hcg]
  cases h5:decide (c<=19)
  ·refine rpG ?_
   exact ⟨rfl,hI⟩
  refine rpG ?_
  refine ad hI 0 rfl be bk rfl ?_
  refine aC hks bz ?_
  refine dl ?_
  rw [hkl]
  refine rpG ?_
  exact ⟨rfl,hI⟩
 intro q _ _ _ _ _ _ _ _ _ _ _ _ _ _ _ _ _ _ _ _ _ _ _ w'
 rintro ⟨rfl,hI⟩
 refine az (fun hb=>done hI ?_) (fun hb=>?_)
 ·rw [Bool.not_eq_true'] at hb
  rw [<- Bool.and_assoc,hb]; rfl
 rw [Bool.not_eq_false',Bool.and_eq_true] at hb
 rw [hb.1,hb.2,Bool.true_and,Bool.true_and]
 refine ⟨fun i w'=>∃ k:Nat,k<=ks.length/\i=.int .i64 k/\nG (ks.drop k) (d - 1)=nG ks (d - 1)/\Inv w [] [.blk b2 (.cells #[.int .i64 g.kind,.int .i64 g.n,.string g.name,kv,.int .i64 c,kf] ag)] S w',
  fun i _=>ks.length - (intOf i).toNat,⟨0,Nat.zero_le _,rfl,rfl,hI⟩,?_⟩
 intro i _ _ _ _ _ _ _ _ _ _ _ _ _ _ _ _ _ w'
 rintro ⟨k,hk,rfl,hrel,hI⟩
 refine ad hI 0 rfl be bk rfl ?_
 refine aC hks bz ?_
 refine bq ?_
 refine aI (fun hki=>?_) (fun hki=>?_)
 ·have hk':k<ks.length:=by omega
  have hm:=List.getElem_mem hk'
  have hwm:=Ba hm
  rw [List.drop_eq_getElem_cons hk',nG] at hrel
  refine ad hI 0 rfl be bk rfl ?_
  refine bY hI hks bz aN hk' (fun _ _=>RdF.length) fun ds hds=>?_
  refine hK (by omega) ?_
  have hge:1<=d:=of_decide_eq_true hb.1
  refine Run.callPure tf sS hI (ih _ hm S ds (d - 1) hds (by omega) (by omega) (by omega)) fun w' hI=>?_
  refine bK ?_
  refine az (fun hne=>done hI ?_) (fun he=>?_)
  ·rw [Bool.not_eq_true'] at hne
   rw [<- hrel,hne]; rfl
  ·rw [Bool.not_eq_false'] at he
   rw [he,Bool.true_and] at hrel
   refine bl (by omega) ?_
   exact ⟨⟨k+1,hk',rfl,hrel,hI⟩,by simp [intOf]; omega⟩
 ·have:k=ks.length:=by omega
  subst this
  exact done hI (by rw [<- hrel,List.drop_length]; rfl)
theorem DY:∀ (t:PF) (S:ae) (cs:List Value) (m:Int),RdF S cs t->0<=m->m<=1000000->Pure Tryz.prog KD [.agg cs.toArray,.int .i64 m] S (.int .i64 (th t m)):=by
 refine PF.ind fun g c ks ih S cs m h hm0 hm1=>?_
 intro w hI
 obtain ⟨kv,kf,rfl,hg,hc,hks⟩:=RdF.iff.1 h
 simp only [PF.goal,PF.kids,PF.clause] at hg hc hks ⊢
 have hlen:=hks.le
 simp only [maxLen] at hlen
 rw [th]
 refine vf.2 ?_
 dsimp only[vf,aW]
 refine bf hI fun b2 w' hI=>?_
 have hI:Inv w [] [.blk b2 (.cells #[.int .i64 g.kind,.int .i64 g.n,.string g.name,kv,.int .i64 c,kf] ag)] S w':=hI
 refine ⟨fun i t w'=>∃ (k:Nat) (n:Int),k<=ks.length/\i=.int .i64 k/\t=.int .i64 n/\1<=n/\n<=m+1/\iZ (ks.drop k) n m=iZ ks 1 m/\Inv w [] [.blk b2 (.cells #[.int .i64 g.kind,.int .i64 g.n,.string g.name,kv,.int .i64 c,kf] ag)] S w',
  fun i _ _=>ks.length - (intOf i).toNat,⟨0,1,Nat.zero_le _,rfl,rfl,by omega,by omega,rfl,hI⟩,?_⟩
 intro i _ _ t _ _ _ _ _ _ _ _ _ _ _ _ _ _ _ _ _ _ _ _ _ w'
 rintro ⟨k,n,hk,rfl,rfl,hn0,hn1,hrel,hI⟩
 refine ⟨fun q w'=>q=.bool (decide (k<ks.length) && decide (n<=m))/\Inv w [] [.blk b2 (.cells #[.int .i64 g.kind,.int .i64 g.n,.string g.name,kv,.int .i64 c,kf] ag)] S w',?_,?_⟩
 ·refine ad hI 0 rfl be bk rfl ?_
  refine aC hks bz ?_
  refine bq ?_
  have el:decide ((k:Int)<(ks.length:Int))=decide (k<ks.length):=by rw [decide_eq_decide]; omega
  rw [el]
  cases h1:decide (k<ks.length)
  ·refine rpG ?_
   exact ⟨rfl,hI⟩
  refine rpG ?_
  refine eC ?_
  refine rpG ?_
  exact ⟨rfl,hI⟩
 intro q _ _ _ _ _ _ _ _ _ w'
 rintro ⟨rfl,hI⟩
 refine az (fun hb=>?_) (fun hb=>?_)
 ·rw [Bool.and_eq_true,decide_eq_true_eq,decide_eq_true_eq] at hb
  obtain ⟨hk',hnm⟩:=hb
  have hm:=List.getElem_mem hk'
  rw [List.drop_eq_getElem_cons hk',iZ,if_pos hnm] at hrel
  obtain ⟨s1,s2,_,_⟩:=Bm ks[k] (m - n) (by omega)
  refine ad hI 0 rfl be bk rfl ?_
  refine bY hI hks bz aN hk' (fun _ _=>RdF.length) fun ds hds=>?_
  refine hK (by omega) ?_
  refine Run.callPure u3 vP hI (ih _ hm S ds (m - n) hds (by omega) (by omega)) fun w' hI=>?_
  refine bl (by omega) ?_
  refine bl (by omega) ?_
  exact ⟨⟨k+1,_,hk',rfl,rfl,by omega,by omega,hrel,hI⟩,by simp [intOf]; omega⟩
 ·refine done hI ?_
  rw [<- hrel]
  by_cases hk':k<ks.length
  ·rw [decide_eq_true hk',Bool.true_and] at hb
   rw [List.drop_eq_getElem_cons hk',iZ,if_neg (of_decide_eq_false hb)]
  ·have:k=ks.length:=by omega
   subst this
   rw [List.drop_length,iZ]
theorem il {t:PF} {S:ae} {cs:List Value} (h:RdF S cs t) (hw:wF t<=1048576):Pure Tryz.prog BQ [.agg cs.toArray] S (.bool (dO t)):=by
 intro w hI
 have hl:=h.length
 refine pt.2 ?_
 dsimp only[pt,aL]
 refine bf hI fun b1 w' hI=>?_
 refine ao hI 0 aN rfl (by simpa [Value.cells] using hl) ?_
 refine Run.callPure tf sS hI (BR t S cs 20 h hw (by omega) (by omega)) fun w' hI=>?_
 rw [dO]
 cases hs:mP t 20
 ·refine rpG ?_
  exact done hI rfl
 refine rpG ?_
 refine ao hI 0 aN rfl (by simpa [Value.cells] using hl) ?_
 refine Run.callPure u3 vP hI (DY t S cs 60 h (by omega) (by omega)) fun w' hI=>?_
 refine eC ?_
 rw [PH]
 refine rpG ?_
 exact done hI rfl
end
end
section
open Go Go.RowKit
attribute [local irreducible] Run CondV aB aS

def iF (t u:T):Bool:=decide (t.kind=u.kind) && (decide (t.n=u.n) && (decide (t.name=u.name) && decide (t.kids.length=u.kids.length)))
theorem dz (k n k' n':Int) (s s':ByteArray) (ks ks':List T):iF (.mk k n s ks) (.mk k' n' s' ks')=(decide (k=k') && (decide (n=n') && (decide (s=s') && decide (ks.length=ks'.length)))):=rfl
theorem Jn {α β:Type} (a:List α) (b:List β):decide (a.length=b.length)=decide ((a.length:Int)=(b.length:Int)):=by
 rw [Bool.eq_iff_iff]
 simp only [decide_eq_true_eq]
 omega
theorem RT (t u:T):eqT t u=(iF t u && eqL t.kids u.kids):=by
 obtain ⟨k,n,s,ks⟩:=t
 obtain ⟨k',n',s',ks'⟩:=u
 rw [eqT,dz]
 by_cases h:ks.length=ks'.length
 ·rw [decide_eq_true h,Bool.and_true,Bool.and_assoc,Bool.and_assoc]; rfl
 ·rw [Nm h,decide_eq_false h]; simp
theorem nN:∀ (t u:T) (S:ae) (cs ds:List Value),RdT S cs t->RdT S ds u->Pure Tryz.prog Gn [.agg cs.toArray,.agg ds.toArray] S (.bool (eqT t u)):=by
 refine T.ind fun k n s ks ih u S cs ds h h'=>?_
 intro w hI
 obtain ⟨kv,rfl,_,_,_,hks⟩:=RdT.iff.1 h
 obtain ⟨kv',rfl,_,_,_,hks'⟩:=RdT.iff.1 h'
 obtain ⟨k',n',s',ks'⟩:=u
 simp only [T.name,T.kids,T.kind,T.n] at hks hks' ⊢
 have hlen:=hks.le
 simp only [maxLen] at hlen
 refine sq.2 ?_
 dsimp only[sq,aW]
 refine bf hI fun b1 w' hI=>?_
 refine bf hI fun b2 w' hI=>?_
 have hI:Inv w [] [.blk b1 (.cells #[.int .i64 k,.int .i64 n,.string s,kv] ab),.blk b2 (.cells #[.int .i64 k',.int .i64 n',.string s',kv'] ab)] S w':=hI
 refine ⟨fun q w'=>q=.bool (!iF (.mk k n s ks) (.mk k' n' s' ks'))/\Inv w [] [.blk b1 (.cells #[.int .i64 k,.int .i64 n,.string s,kv] ab),.blk b2 (.cells #[.int .i64 k',.int .i64 n',.string s',kv'] ab)] S w',?_,?_⟩
 ·refine ad hI 0 rfl aE av rfl ?_
  refine ad hI 1 rfl aE av rfl ?_
  refine cD ?_
  by_cases e1:k=k'
  ·rw [decide_eq_true e1]
   refine rpG ?_
   refine ad hI 0 rfl aM av rfl ?_
   refine ad hI 1 rfl aM av rfl ?_
   refine cD ?_
   by_cases e2:n=n'
   ·rw [decide_eq_true e2]
    refine rpG ?_
    refine ad hI 0 rfl aO aJ rfl ?_
    refine ad hI 1 rfl aO aJ rfl ?_
    refine yM ?_
    by_cases e3:s=s'
    ·rw [decide_eq_true e3]
     refine rpG ?_
     refine ad hI 0 rfl al ah rfl ?_
     refine aC hks af ?_
     refine ad hI 1 rfl al ah rfl ?_
     refine aC hks' af ?_
     refine cD ?_
     refine rpG ?_
     exact ⟨by rw [dz,decide_eq_true e1,decide_eq_true e2,decide_eq_true e3,Jn]; rfl,hI⟩
    ·rw [decide_eq_false e3]
     refine rpG ?_
     exact ⟨by rw [dz,decide_eq_true e1,decide_eq_true e2,decide_eq_false e3]; rfl,hI⟩
   ·rw [decide_eq_false e2]
    refine rpG ?_
    exact ⟨by rw [dz,decide_eq_true e1,decide_eq_false e2]; rfl,hI⟩
  ·rw [decide_eq_false e1]
   refine rpG ?_
   exact ⟨by rw [dz,decide_eq_false e1]; rfl,hI⟩

 intro q _ _ _ _ _ _ _ _ _ _ _ _ _ _ _ _ _ _ _ _ _ _ _ _ _ _ _ w'
 rintro ⟨rfl,hI⟩
 rw [RT]
 cases hd:iF (.mk k n s ks) (.mk k' n' s' ks')
 ·refine az (fun _=>done hI rfl) (fun hb=>by cases hb)
 refine az (fun hb=>by cases hb) (fun _=>?_)
 have hle:ks.length=ks'.length:=by
  rw [dz] at hd
  simp only [Bool.and_eq_true,decide_eq_true_eq] at hd
  exact hd.2.2.2
 simp only [T.kids,Bool.true_and]
 refine ⟨fun i w'=>∃ j:Nat,j<=ks.length/\i=.int .i64 j/\eqL (ks.drop j) (ks'.drop j)=eqL ks ks'/\Inv w [] [.blk b1 (.cells #[.int .i64 k,.int .i64 n,.string s,kv] ab),.blk b2 (.cells #[.int .i64 k',.int .i64 n',.string s',kv'] ab)] S w',fun i _=>ks.length - (intOf i).toNat,⟨0,Nat.zero_le _,rfl,rfl,hI⟩,?_⟩
 intro t5 _ _ _ _ _ _ _ _ _ _ _ _ _ _ _ _ _ _ _ _ w'
 rintro ⟨j,hj,rfl,hrel,hI⟩
 refine ad hI 0 rfl al ah rfl ?_
 refine aC hks af ?_
 refine bq ?_
 refine aI (fun hji=>?_) (fun hji=>?_)
 ·have hj1:j<ks.length:=by omega
  have hj2:j<ks'.length:=by omega
  obtain ⟨c1,o1,cap1,a1,E1,fz1,rfl,hS1,hR1⟩:=hks.at_ hj1
  obtain ⟨c2,o2,cap2,a2,E2,fz2,rfl,hS2,hR2⟩:=hks'.at_ hj2
  have hstep:eqL (ks.drop j) (ks'.drop j)=(eqT ks[j] ks'[j] && eqL (ks.drop (j+1)) (ks'.drop (j+1))):=by
   rw [List.drop_eq_getElem_cons hj1,List.drop_eq_getElem_cons hj2,eqL]
  refine ⟨fun D kX rR s3 sO rp jL mw kL jY iC iJ ig w_=>Fx D 0 [ig=.pointer (some ⟨b1,3,none⟩),iJ=.slice (some ⟨c1,o1,none⟩) ks.length cap1,iC=.int .i64 j,jY=.pointer (some ⟨c1,o1+j * 4,none⟩),kL=.agg (aH a1 (o1+j * 4) 4).toArray,mw=.pointer (some ⟨b2,3,none⟩),jL=.slice (some ⟨c2,o2,none⟩) ks'.length cap2,rp=.int .i64 j,sO=.pointer (some ⟨c2,o2+j * 4,none⟩),s3=.agg (aH a2 (o2+j * 4) 4).toArray,rR=.bool (eqT ks[j] ks'[j]),kX=.bool (!eqT ks[j] ks'[j])]/\Inv w [] [.blk b1 (.cells #[.int .i64 k,.int .i64 n,.string s,.slice (some ⟨c1,o1,none⟩) ks.length cap1] ab),.blk b2 (.cells #[.int .i64 k',.int .i64 n',.string s',.slice (some ⟨c2,o2,none⟩) ks'.length cap2] ab)] S w_,⟨Fx.nil _ _,hI.draw⟩,⟨?_,?_,?_,?_,?_,?_,?_,?_,?_,?_,?_,?_,trivial⟩,?_⟩
  all_goals (intro D bn; intros; rename_i kX rR s3 sO rp jL mw kL jY iC iJ ig w_ hA_; have hF_:=hA_.1; obtain ⟨⟨bR,bQ,bG,bS,bU,bB,bD,cq,ci,cL,bH,bT,_⟩,hI⟩:=hA_)
  ·refine ai al ?_
   exact ⟨hF_.set 0 rfl,hI⟩
  ·obtain rfl:=bR ‹_›
   refine aA hI 0 ah rfl rfl ?_
   exact ⟨hF_.set 1 rfl,hI⟩
  ·exact ⟨hF_.set 2 rfl,hI⟩
  ·obtain rfl:=bQ ‹_›
   obtain rfl:=bG ‹_›
   refine ar af hj1 ?_
   exact ⟨hF_.set 3 rfl,hI⟩
  ·obtain rfl:=bS ‹_›
   refine bE ac hR1.length (fun j v hj=>by rw [hI.cellS hS1]; exact au rfl j v hj) ?_
   exact ⟨hF_.set 4 rfl,hI⟩
  ·refine ai al ?_
   exact ⟨hF_.set 5 rfl,hI⟩
  ·obtain rfl:=bB ‹_›
   refine aA hI 1 ah rfl rfl ?_
   exact ⟨hF_.set 6 rfl,hI⟩
  ·exact ⟨hF_.set 7 rfl,hI⟩
  ·obtain rfl:=bD ‹_›
   obtain rfl:=cq ‹_›
   refine ar af hj2 ?_
   exact ⟨hF_.set 8 rfl,hI⟩
  ·obtain rfl:=ci ‹_›
   refine bE ac hR2.length (fun j v hj=>by rw [hI.cellS hS2]; exact au rfl j v hj) ?_
   exact ⟨hF_.set 9 rfl,hI⟩
  ·obtain rfl:=bU ‹_›
   obtain rfl:=cL ‹_›
   refine Run.callPure mM mN hI (ih _ (List.getElem_mem hj1) _ S _ _ hR1 hR2) fun w_ hI=>?_
   exact ⟨hF_.set 10 rfl,hI⟩
  ·obtain rfl:=bH ‹_›
   refine bK ?_
   exact ⟨hF_.set 11 rfl,hI⟩
  obtain ⟨rfl,rfl,rfl,rfl,rfl,rfl,rfl,rfl,rfl,rfl,rfl,rfl,_⟩:=hF_.all
  clear hF_ bR bQ bG bS bU bB bD cq ci cL bH bT
  refine az (fun hne=>?_) (fun he'=>?_)
  ·exact done hI (by rw [<- hrel,hstep]; simp at hne; rw [hne]; rfl)
  ·refine bl (by omega) ?_
   refine ⟨⟨j+1,hj1,rfl,?_,hI⟩,by simp [intOf]; omega⟩
   rw [<- hrel,hstep]
   simp at he'
   rw [he',Bool.true_and]
 ·have:j=ks.length:=by omega
  subst this
  refine done hI ?_
  rw [<- hrel,List.drop_length,hle,List.drop_length]
  rfl
end
end Go.Proofs.YtfcbhfjomgopbaaGreat
