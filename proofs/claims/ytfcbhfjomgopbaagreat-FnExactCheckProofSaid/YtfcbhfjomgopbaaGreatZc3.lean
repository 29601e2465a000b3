/- The laws' marks, written into trees of the function's own. -/
import Derived.Test.YtfcbhfjomgopbaaGreatZc2
import Derived.Test.YtfcbhfjomgopbaaGreatZc1
import Derived.Laws.StructEq
import Derived.Laws.Tables
import Derived.Test.YtfcbhfjomgopbaaGreatZc0
namespace Go.Proofs.YtfcbhfjomgopbaaGreat
open Go Go.RowKit

theorem Part.upd {α:Type} {k:Nat} {R:bo->List Value->α->Prop} {c c':Array Value} {Ls:List bo} {xs:List α} (h:Part k R c Ls xs) {i:Nat} {L':bo} {x:α} (hx:R L' (ba c' (i * k) k) x)
  (hne:∀ j,j≠i->ba c' (j * k) k=ba c (j * k) k):Part k R c' (Ls.set i L') (xs.set i x):=by
 refine ⟨by simp [h.1],fun j h1 h2=>?_⟩
 by_cases e:i=j
 ·subst e
  rw [List.getElem_set_self,List.getElem_set_self]
  exact hx
 ·rw [List.getElem_set_ne e,List.getElem_set_ne e,hne j fun e'=>e e'.symm]
  exact h.2 j (by simpa using h1) (by simpa using h2)
section
attribute [local irreducible] Run CondV ak bg
end

end Go.Proofs.YtfcbhfjomgopbaaGreat

/- The laws' marks, written into clauses of the function's own. -/
namespace Go.Proofs.YtfcbhfjomgopbaaGreat
open Go Go.RowKit

section
attribute [local irreducible] Run CondV ak bg
theorem TrC.parts {L:bo} {cs:List Value} {c:C} (h:TrC L cs c):∃ kv ks L1 L2,cs=[.int .i64 c.head.kind,.int .i64 c.head.n,.string c.head.name,kv,ks]/\L=L1++L2/\TrSl 4 TrT L1 kv c.head.kids/\TrSl 4 TrT L2 ks c.body:=by
 obtain ⟨hd,ks,L1,L2,rfl,rfl,h1,h2⟩:=h
 obtain ⟨kv,rfl,_,_,_,hkT⟩:=TrT.iff.1 h1
 exact ⟨kv,ks,L1,L2,rfl,rfl,hkT,h2⟩
end

end Go.Proofs.YtfcbhfjomgopbaaGreat

/- The laws' marks, read again. -/
namespace Go.Proofs.YtfcbhfjomgopbaaGreat
open Go Go.RowKit

section
attribute [local irreducible] Run CondV ak bg
end

end Go.Proofs.YtfcbhfjomgopbaaGreat

/- Names of goals with their numbers of arguments: built, compared; the clauses for one. -/
namespace Go.Proofs.YtfcbhfjomgopbaaGreat
open Go Go.RowKit

section
variable {w:World} {K:Value->World->Prop}
attribute [local irreducible] Run
end

attribute [local irreducible] Run CondV ak bg
structure Pd where
 name:ByteArray
 arity:Int
deriving DecidableEq
def Pd.cells (x:Pd):List Value:=[.string x.name,.int .i64 x.arity]
end Go.Proofs.YtfcbhfjomgopbaaGreat

/- The clauses for a goal; which clauses can be unfolded: both sides. -/
namespace Go.Proofs.YtfcbhfjomgopbaaGreat
open Go Go.RowKit
attribute [local irreducible] Run CondV ak bg

end Go.Proofs.YtfcbhfjomgopbaaGreat

/- Lists of predicates: asked and grown, on both sides. -/
namespace Go.Proofs.YtfcbhfjomgopbaaGreat
open Go Go.RowKit
attribute [local irreducible] Run CondV ak bg

end Go.Proofs.YtfcbhfjomgopbaaGreat

/- Marks in rows of predicates; trees lent and taken back. -/
namespace Go.Proofs.YtfcbhfjomgopbaaGreat
open Go Go.RowKit

/- a tree of the function's own, handed to readers, and taken back -/
theorem Inv.lendAll {w0 w:World} {X:List Nat} {A:List Item} (M:bo) {S:ar} (h:Inv w0 X (A++dP M) S w) :
  ∃ S',Sle S S'/\Ins S' M/\Inv w0 X A S' w/\∀ B w',Inv w0 X B S' w'->Inv w0 X (B++dP M) S w':=by
 obtain ⟨S',h1,h2,h3,h4⟩:=Inv.publishAll M h
 have hnd:=h.nd
 rw [bL,List.nodup_append] at hnd
 refine ⟨S',h2,h3,h1,fun B w' hB=>⟨hB.size,hB.os,hB.tape,hB.output,hB.old,fun it hit=>?_,?_,fun b hb=>?_,fun b o hb=>⟨(hB.pub b o (h2 b o hb)).1,fun hb'=>?_⟩⟩⟩
 ·rcases List.mem_append.1 hit with hit|hit
  ·exact hB.its it hit
  ·obtain ⟨p,hp,rfl⟩:=List.mem_map.1 hit
   exact (hB.pub _ _ (h3 p hp)).1
 ·rw [bL,List.nodup_append]
  refine ⟨hB.nd,hnd.2.1,fun a ha b hb e=>?_⟩
  subst e
  obtain ⟨p,hp,rfl⟩:=gH.1 hb
  exact (hB.pub _ _ (h3 p hp)).2 ha
 ·rw [bL] at hb
  rcases List.mem_append.1 hb with hb|hb
  ·exact hB.new b hb
  ·exact h.new b (by rw [bL]; exact List.mem_append_right _ hb)
 ·rw [bL] at hb'
  rcases List.mem_append.1 hb' with hb'|hb'
  ·exact (hB.pub b o (h2 b o hb)).2 hb'
  ·exact (h.pub b o hb).2 (by rw [bL]; exact List.mem_append_right _ hb')
/- a row seen as its block -/
theorem Inv.openRow {w0 w:World} {X:List Nat} {A:List Item} {S:ar} {v:Value} {e:TypeId} {k n:Nat} {xs:List Value} (h:Inv w0 X (A++[.row v e k n xs]) S w) :
  xs.length=n * k/\((v=.slice none 0 0/\n=0) ∨ ∃ g cap cur,v=.slice (some ⟨g,0,none⟩) n cap/\n<=cap/\cap<=maxLen/\cur.size=cap * k/\cur.toList.take (n * k)=xs/\Inv w0 X (A++[.blk g (.cells cur e)]) S w):=by
 have hm:w.ownsRow 0 e k v n xs:=h.its (.row v e k n xs) (by simp)
 obtain ⟨hl,hm⟩:=hm
 refine ⟨hl,?_⟩
 rcases hm with hn|⟨g,cap,cur,rfl,_,hg,hnc,hcm,hcs,ht⟩
 ·exact .inl hn
 ·have hf:bv (A++[Item.blk g (.cells cur e)])=bv (A++[Item.row (.slice (some ⟨g,0,none⟩) n cap) e k n xs]):=by
   simp [bv,Item.foot,Value.ownBlock]
  refine .inr ⟨g,cap,cur,rfl,hnc,hcm,hcs,ht,h.size,h.os,h.tape,h.output,h.old,fun it hit=>?_,by rw [hf]; exact h.nd,by rw [hf]; exact h.new,by rw [hf]; exact h.pub⟩
  rcases List.mem_append.1 hit with hit|hit
  ·exact h.its it (List.mem_append_left _ hit)
  ·simp at hit
   subst hit
   exact hg
theorem Inv.closeRow {w0 w:World} {X:List Nat} {A:List Item} {S:ar} {g cap k n:Nat} {cur:Array Value} {e:TypeId} (h:Inv w0 X (A++[.blk g (.cells cur e)]) S w) (hn:n<=cap) (hc:cap<=maxLen) (hs:cur.size=cap * k) :
  Inv w0 X (A++[.row (.slice (some ⟨g,0,none⟩) n cap) e k n (cur.toList.take (n * k))]) S w:=by
 have hg:w.heap[g]?=some (.cells cur e):=h.its (.blk g (.cells cur e)) (by simp)
 have hf:bv (A++[Item.row (.slice (some ⟨g,0,none⟩) n cap) e k n (cur.toList.take (n * k))])=bv (A++[Item.blk g (.cells cur e)]):=by
  simp [bv,Item.foot,Value.ownBlock]
 refine ⟨h.size,h.os,h.tape,h.output,h.old,fun it hit=>?_,by rw [hf]; exact h.nd,by rw [hf]; exact h.new,by rw [hf]; exact h.pub⟩
 rcases List.mem_append.1 hit with hit|hit
 ·exact h.its it (List.mem_append_left _ hit)
 ·simp at hit
  subst hit
  refine ⟨?_,.inr ⟨g,cap,cur,rfl,Nat.zero_le _,hg,hn,hc,hs,rfl⟩⟩
  rw [List.length_take,Array.length_toList,hs]
  exact Nat.min_eq_left (Nat.mul_le_mul_right k hn)

section
attribute [local irreducible] Run CondV ak bg
end

end Go.Proofs.YtfcbhfjomgopbaaGreat

/- Trees grown by append; impl.own and its kin. -/
namespace Go.Proofs.YtfcbhfjomgopbaaGreat
open Go Go.RowKit

structure Grown {α:Type} (k:Nat) (R:bo->List Value->α->Prop) (Ls:List bo) (css:List (List Value)) (ys:List α):Prop where
 hL:Ls.length=ys.length
 hc:css.length=ys.length
 hk:∀ cs∈css,cs.length=k
 hR:∀ i (h:i<ys.length) (h1:i<Ls.length) (h2:i<css.length),R Ls[i] css[i] ys[i]
theorem Grown.nil {α:Type} (k:Nat) (R:bo->List Value->α->Prop):Grown k R [] [] ([]:List α):=⟨rfl,rfl,by simp,fun i h=>by simp at h⟩
theorem Grown.snoc {α:Type} {k:Nat} {R:bo->List Value->α->Prop} {Ls:List bo} {css:List (List Value)} {ys:List α} (h:Grown k R Ls css ys) {L:bo} {cs:List Value} {y:α} (hR:R L cs y) (hl:cs.length=k) :
  Grown k R (Ls++[L]) (css++[cs]) (ys++[y]):=by
 refine ⟨by simp [h.hL],by simp [h.hc],fun c hc=>?_,fun i h0 h1 h2=>?_⟩
 ·rcases List.mem_append.1 hc with hc|hc
  ·exact h.hk c hc
  ·simp at hc; subst hc; exact hl
 ·have e1:=h.hL
  have e2:=h.hc
  by_cases hi:i<ys.length
  ·rw [List.getElem_append_left (by omega),List.getElem_append_left (by omega),List.getElem_append_left hi]
   exact h.hR i hi (by omega) (by omega)
  ·have:i=ys.length:=by simp at h0; omega
   subst this
   rw [List.getElem_append_right (by omega),List.getElem_append_right (by omega),List.getElem_append_right (by omega)]
   simp only [e1,e2,Nat.sub_self,List.getElem_cons_zero]
   exact hR
theorem kQ (k:Nat):∀ (css:List (List Value)) (i:Nat) (_:∀ cs∈css,cs.length=k) (h:i<css.length),(css.flatten.drop (i * k)).take k=css[i]
 | [],i,_,h=>by simp at h
 | c::css,0,hk,_=>by
  have:=hk c (List.mem_cons_self ..)
  rw [List.flatten_cons,Nat.zero_mul,List.drop_zero,List.take_append_of_le_length (by omega),List.take_of_length_le (by omega)]
  rfl
 | c::css,i+1,hk,h=>by
  have:=hk c (List.mem_cons_self ..)
  rw [List.flatten_cons,Nat.succ_mul,Nat.add_comm,<- List.drop_drop,List.drop_left' this]
  exact kQ k css i (fun cs hc=>hk cs (List.mem_cons_of_mem _ hc)) (by simpa using h)
abbrev dL (v:Value) (e:TypeId) (k:Nat) (css:List (List Value)):Item:=.row v e k css.length css.flatten
theorem CF (v:Value) (e:TypeId) (k:Nat) (css:List (List Value)) (cs:List Value):Item.row v e k (css.length+1) (css.flatten++cs)=dL v e k (css++[cs]):=by
 simp [dL]
section
variable {P:Program} {w w0:World} {X:List Nat} {L:List Item} {S:ar} {K:Value->World->Prop}
attribute [local irreducible] Run CondV ak bg
/- append(row, x): x is put into a block of its own first -/
theorem mG (h:Inv w0 X L S w) {T ty e:TypeId} {k by_:Nat} {z v:Value} {cs:List Bool} {css:List (List Value)} (i:Nat) (xs:List Value)
  (hT:ou P T=some (e,k,by_,z)) (hk0:0<k) (hk24:k<=65536) (hi:L[i]?=some (dL v e k css)) (hl:xs.length=k) (h1:∀ u∈xs,u.oneCell'=true) (hfit:css.length+1<=4294967296) (hby:by_<=32768)
  (hk:∀ v' w',Inv w0 X (L.set i (dL v' e k (css++[xs]))) S w'->K v' w') :
  Run P (bB T 1 [(0,.agg xs.toArray)]) w fun u w'=>Run P (aM .append #[T,T] ty cs [v,u]) w' K:=by
 refine uS h hT (by simp [Value.cells,hl]) hk24 hk0 fun b w' hI=>?_
 have hil:i<L.length:=(List.getElem?_eq_some_iff.1 hi).1
 refine oD hI i xs hT hk0 (by rw [List.getElem?_append_left hil]; exact hi) (by omega) (m:=1) (o:=0) ?_ h1 hfit hby fun v' w' hI=>?_
 ·intro j u hj
  rw [hI.cellL (i:=L.length) (by rw [List.getElem?_append_right (Nat.le_refl _),Nat.sub_self]; rfl)]
  rw [Nat.zero_add]
  simpa [Value.cells] using hj
 ·refine hk _ _ ?_
  rw [<- CF]
  rw [List.set_append_left _ _ hil] at hI
  exact hI.sub (List.sublist_append_left _ _)
end

section
attribute [local irreducible] Run CondV ak bg
end

end Go.Proofs.YtfcbhfjomgopbaaGreat

/- impl.ownClause, impl.ownProgram. -/
namespace Go.Proofs.YtfcbhfjomgopbaaGreat
open Go Go.RowKit
section
variable {w:World} {K:Value->World->Prop}
attribute [local irreducible] Run
theorem rW {a b:Int} {s:ByteArray} (hk:K (.agg #[.int .i64 a,.int .i64 b,.string s,.slice none 0 0]) w):Run Tryz.prog (dn ac [(0,.int .i64 a),(1,.int .i64 b),(2,.string s)]) w K:=by
 refine Run.of (v:=.agg #[.int .i64 a,.int .i64 b,.string s,.slice none 0 0]) (w':=w) ?_ hk
 unfold dn
 rw [Sem.run_bind,run_build w ac _ #[.int .i64 a,.int .i64 b,.string s,.slice none 0 0] (by kernel_rfl),Result.andThen_ok]
 rfl
end
section
attribute [local irreducible] Run CondV ak bg
end

end Go.Proofs.YtfcbhfjomgopbaaGreat

/- impl.ownProgram; spec's copies. -/
namespace Go.Proofs.YtfcbhfjomgopbaaGreat
open Go Go.RowKit
theorem RdC.one {S:ar} {cs:List Value} {c:C} (h:RdC S cs c):∀ u∈cs,u.oneCell'=true:=by
 obtain ⟨hd,ks,rfl,h1,a,cap,rfl,_⟩:=h
 intro u hu
 rcases List.mem_append.1 hu with hu|hu
 ·exact h1.one u hu
 ·simp at hu; subst hu; rfl
section
attribute [local irreducible] Run CondV ak bg
/- a row's value is a slice -/
theorem Inv.rowSlice {w0 w:World} {X:List Nat} {L:List Item} {S:ar} {v:Value} {e:TypeId} {k n:Nat} {xs:List Value} (h:Inv w0 X L S w) (i:Nat) (hi:L[i]?=some (.row v e k n xs)):∃ a m c,v=.slice a m c:=by
 have hm:w.ownsRow 0 e k v n xs:=h.its (.row v e k n xs) (List.mem_of_getElem? hi)
 rcases hm.2 with ⟨rfl,_⟩|⟨g,cap,cur,rfl,_⟩
 ·exact ⟨_,_,_,rfl⟩
 ·exact ⟨_,_,_,rfl⟩
end

end Go.Proofs.YtfcbhfjomgopbaaGreat

/- Variables numbered anew: the plain form of both sides. -/
namespace Go.Proofs.YtfcbhfjomgopbaaGreat
open Go Go.RowKit

def Fl:List Int->Int->Int->Nat->Int
 | [],_,cur,_=>cur
 | x::xs,n,cur,k=>Fl xs n (if x=n then (k:Int) else cur) (k+1)
mutual
def Fh (vs:List Int):T->T
 | .mk k n s ks=>.mk k (if k=1 then Fl vs n n 0 else n) s (D6 vs ks)
def D6 (vs:List Int):List T->List T
 | []=>[]
 | t::ts=>Fh vs t::D6 vs ts
end
theorem AW (l:List Int) (n:Int):z7 l n=true↔n∈l:=by
 simp [z7]
theorem BZ {l:List Int} (n:Int) (h:l.Nodup):(tR l n).Nodup:=by
 unfold tR
 split
 ·exact h
 ·rename_i hn
  rw [List.nodup_append]
  refine ⟨h,by simp,fun a ha b hb e=>hn ((AW l n).2 ?_)⟩
  simp at hb
  rw [<- hb,<- e]
  exact ha
theorem DD {t:T} (h:d3 t=true) (hk:t.kind=1):t.name=emptyB/\t.kids.length=0:=by
 unfold d3 at h
 rw [if_pos hk] at h
 simp only [Bool.and_eq_true,decide_eq_true_eq] at h
 exact ⟨h.2.2.1,h.2.2.2⟩
def F4 (vs:List Int) (c:C):C:=⟨Fh vs c.head,D6 vs c.body⟩
def FR (c:C):List Int:=dV (c.head::c.body) []
end Go.Proofs.YtfcbhfjomgopbaaGreat

/- Unification: the plain form. Lists of bindings, what a variable reaches, unifiers, resolved terms. -/
namespace Go.Proofs.YtfcbhfjomgopbaaGreat
open Go Go.RowKit
/- terms whose variables are bare and below a number -/
mutual
def okU (N:Nat):T->Prop
 | .mk k n s ks=>k≠0/\(k=1->0<=n/\n<N/\s=emptyB/\ks=[])/\eO N ks/\s.size<=6
def eO (N:Nat):List T->Prop
 | []=>True
 | t::ts=>okU N t/\eO N ts
end
mutual
def vT:T->List Nat
 | .mk k n _ ks=>if k=1 then [n.toNat] else vTL ks
def vTL:List T->List Nat
 | []=>[]
 | t::ts=>vT t++vTL ts
end
theorem jQ {N:Nat}:∀ {ts:List T},eO N ts->∀ t∈ts,okU N t
 | t::ts,h,x,hx=>by
  rw [eO] at h
  rcases List.mem_cons.1 hx with rfl|hx
  ·exact h.1
  ·exact jQ h.2 x hx
theorem uh {N:Nat}:∀ {ts:List T},(∀ t∈ts,okU N t)->eO N ts
 | [],_=>by rw [eO]; trivial
 | t::ts,h=>by rw [eO]; exact ⟨h t (List.mem_cons_self ..),uh fun u hu=>h u (List.mem_cons_of_mem _ hu)⟩
theorem kn:∀ {ts:List T} {m:Nat},m∈vTL ts↔∃ t∈ts,m∈vT t
 | [],m=>by simp [vTL]
 | t::ts,m=>by rw [vTL,List.mem_append,kn]; simp
theorem okU.kids {N:Nat} {t:T} (h:okU N t):eO N t.kids:=by cases t; rw [okU] at h; exact h.2.2.1
theorem okU.var {N:Nat} {t:T} (h:okU N t) (hk:t.kind=1):0<=t.n/\t.n<N/\t.name=emptyB/\t.kids=[]:=by cases t; rw [okU] at h; exact h.2.1 hk
theorem okU.kind {N:Nat} {t:T} (h:okU N t):t.kind≠0:=by cases t; rw [okU] at h; exact h.1
theorem gA {t:T} (h:t.kind=1):vT t=[t.n.toNat]:=by cases t; rw [vT]; exact if_pos h
theorem uf {t:T} (h:t.kind≠1):vT t=vTL t.kids:=by cases t; rw [vT]; exact if_neg h
mutual
theorem Dw {N:Nat}:∀ (t:T),okU N t->∀ m∈vT t,m<N
 | .mk k n s ks,h,m,hm=>by
  rw [okU] at h
  rw [vT] at hm
  split at hm
  ·rename_i hk
   have:=h.2.1 hk
   simp at hm
   omega
  ·exact Do ks h.2.2.1 m hm
theorem Do {N:Nat}:∀ (ts:List T),eO N ts->∀ m∈vTL ts,m<N
 | [],_,m,hm=>by simp [vTL] at hm
 | t::ts,h,m,hm=>by
  rw [eO] at h
  rw [vTL,List.mem_append] at hm
  rcases hm with hm|hm
  ·exact Dw t h.1 m hm
  ·exact Do ts h.2 m hm
end
/- what a term is bound to -/
def fw (st:a6) (t:T):Option T:=if t.kind=1 then (st[t.n.toNat]?).join else none
theorem cO {st:a6} {t u:T}:fw st t=some u↔t.kind=1/\st[t.n.toNat]?=some (some u):=by
 unfold fw
 split
 ·rename_i h
  simp only [Option.join_eq_some_iff]
  exact ⟨fun e=>⟨h,e⟩,fun e=>e.2⟩
 ·rename_i h
  simp [h]
theorem ye {st:a6} {t:T}:fw st t=none↔(t.kind=1->st[t.n.toNat]?=none ∨ st[t.n.toNat]?=some none):=by
 unfold fw
 split
 ·rename_i h
  rw [Option.join_eq_none_iff]
  constructor
  ·intro e _
   rcases e with e|e
   ·exact .inl e
   ·exact .inr e
  ·intro e
   rcases e h with e|e
   ·exact .inl e
   ·exact .inr e
 ·rename_i h
  simp [h]
inductive cK (st:a6):T->T->Prop
 | stop {t:T}:fw st t=none->cK st t t
 | step {t u v:T}:fw st t=some u->cK st u v->cK st t v
inductive Rch (st:a6):Nat->Nat->Prop
 | refl (m:Nat):Rch st m m
 | step {m k n:Nat} {u:T}:st[m]?=some (some u)->k∈vT u->Rch st k n->Rch st m n
theorem Rch.trans {st:a6} {a b c:Nat} (h:Rch st a b) (h':Rch st b c):Rch st a c:=by
 induction h with
 | refl=>exact h'
 | step h1 h2 _ ih=>exact .step h1 h2 (ih h')
def d6 (st:a6) (n:Nat) (t:T):Prop:=∃ m∈vT t,Rch st m n
structure Good (N:Nat) (st:a6):Prop where
 len:st.length=N
 ok:∀ t,some t∈st->okU N t
 w:∀ t,some t∈st->wT t<=1048576
 rk:∃ r:Nat->Nat,∀ (n:Nat) (u:T),st[n]?=some (some u)->∀ m∈vT u,r m<r n
theorem Good.look_ok {N:Nat} {st:a6} (h:Good N st) {t u:T} (hl:fw st t=some u):okU N u/\wT u<=1048576:=by
 have:=List.mem_of_getElem? (cO.1 hl).2
 exact ⟨h.ok u this,h.w u this⟩
theorem dp {N:Nat} {st:a6} {t v:T} (h:Good N st) (hw:cK st t v) (ht:okU N t/\wT t<=1048576):okU N v/\wT v<=1048576:=by
 induction hw with
 | stop=>exact ht
 | step hl _ ih=>exact ih (h.look_ok hl)
theorem gj {st:a6} {t v:T} (hw:cK st t v):fw st v=none:=by
 induction hw with
 | stop h=>exact h
 | step _ _ ih=>exact ih
theorem Cj {N:Nat} {st:a6} (h:Good N st) (t:T):∃ v,cK st t v:=by
 obtain ⟨r,hr⟩:=h.rk
 have:∀ (k:Nat) (t:T),(∀ u,fw st t=some u->r t.n.toNat<k)->∃ v,cK st t v:=by
  intro k
  induction k with
  | zero=>
   intro t ht
   cases hl:fw st t with
   | none=>exact ⟨t,.stop hl⟩
   | some u=>have:=ht u hl; omega
  | succ k ih=>
   intro t ht
   cases hl:fw st t with
   | none=>exact ⟨t,.stop hl⟩
   | some u=>
    have h1:=ht u hl
    obtain ⟨v,hv⟩:=ih u fun u' hu'=>by
     obtain ⟨hk,_⟩:=cO.1 hu'
     have:=hr _ _ (cO.1 hl).2 u.n.toNat (by rw [gA hk]; simp)
     omega
    exact ⟨v,.step hl hv⟩
 exact this (r t.n.toNat+1) t fun _ _=>Nat.lt_succ_self _
/- what a walk leaves open -/
theorem Et {st:a6} {t v:T} (hw:cK st t v) {n:Nat} (hn:∀ u,st[n]?≠some (some u)):d6 st n t↔d6 st n v:=by
 induction hw with
 | stop=>exact Iff.rfl
 | step hl _ ih=>
  rename_i t u v
  rw [<- ih]
  obtain ⟨hk,hs⟩:=cO.1 hl
  constructor
  ·rintro ⟨m,hm,hr⟩
   rw [gA hk,List.mem_singleton] at hm
   subst hm
   cases hr with
   | refl=>exact absurd hs (hn _)
   | step h1 h2 h3=>
    rw [hs,Option.some.injEq,Option.some.injEq] at h1
    subst h1
    exact ⟨_,h2,h3⟩
  ·rintro ⟨m,hm,hr⟩
   exact ⟨_,by rw [gA hk]; exact List.mem_singleton.2 rfl,.step hs hm hr⟩
/- bindings that are left -/
def unb:a6->Nat
 | []=>0
 | none::st=>unb st+1
 | some _::st=>unb st
theorem pH:∀ (st:a6) (n:Nat) (t:T),st[n]?=some none->unb (st.set n (some t))+1=unb st
 | [],n,t,h=>by simp at h
 | x::st,0,t,h=>by
  simp only [List.getElem?_cons_zero,Option.some.injEq] at h
  subst h
  rfl
 | x::st,n+1,t,h=>by
  have h':st[n]?=some none:=by simpa using h
  have:=pH st n t h'
  cases x <;> simp only [List.set_cons_succ,unb] <;> omega
open Classical in
theorem Good.set {N:Nat} {st:a6} (h:Good N st) {n:Nat} {t:T} (hn:st[n]?=some none) (ht:okU N t) (hw:wT t<=1048576) (ho:¬ d6 st n t):Good N (st.set n (some t)):=by
 have hnl:n<st.length:=(List.getElem?_eq_some_iff.1 hn).1
 refine ⟨by rw [List.length_set]; exact h.len,fun u hu=>?_,fun u hu=>?_,?_⟩
 ·rcases List.mem_or_eq_of_mem_set hu with hu|hu
  ·exact h.ok u hu
  ·rw [Option.some.injEq] at hu
   rw [hu]; exact ht
 ·rcases List.mem_or_eq_of_mem_set hu with hu|hu
  ·exact h.w u hu
  ·rw [Option.some.injEq] at hu
   rw [hu]; exact hw
 ·obtain ⟨r,hr⟩:=h.rk
  have hM:∀ l:List Nat,∃ M,∀ m∈l,r m<=M:=by
   intro l
   induction l with
   | nil=>exact ⟨0,by simp⟩
   | cons x l ih=>
    obtain ⟨M,hM⟩:=ih
    refine ⟨M+r x,fun m hm=>?_⟩
    rcases List.mem_cons.1 hm with rfl|hm
    ·omega
    ·have:=hM m hm; omega
  obtain ⟨M,hM⟩:=hM (vT t)
  refine ⟨fun m=>if Rch st m n then r m+M+1 else r m,fun k u hku m hm=>?_⟩
  by_cases hkn:n=k
  ·subst hkn
   rw [List.getElem?_set_self hnl,Option.some.injEq,Option.some.injEq] at hku
   subst hku
   have h1:¬ Rch st m n:=fun e=>ho ⟨m,hm,e⟩
   have h2:=hM m hm
   simp only [if_neg h1,if_pos (Rch.refl (st:=st) n)]
   omega
  ·rw [List.getElem?_set_ne hkn] at hku
   have h1:=hr k u hku m hm
   by_cases hmn:Rch st m n
   ·have h2:Rch st k n:=.step hku hm hmn
    simp only [if_pos hmn,if_pos h2]
    omega
   ·simp only [if_neg hmn]
    split <;> omega
/- unification -/
inductive Job where
 | one (a b:T)
 | list (xs ys:List T)
inductive Uni:a6->Job->Bool->a6->Prop
 | same {st:a6} {a b a' b':T}:cK st a a'->cK st b b'->a'.kind=1->b'.kind=1->a'.n=b'.n->Uni st (.one a b) true st
 | bindA {st:a6} {a b a' b':T}:cK st a a'->cK st b b'->a'.kind=1->¬ (b'.kind=1/\a'.n=b'.n)->¬ d6 st a'.n.toNat b'->Uni st (.one a b) true (st.set a'.n.toNat (some b'))
 | occA {st:a6} {a b a' b':T}:cK st a a'->cK st b b'->a'.kind=1->¬ (b'.kind=1/\a'.n=b'.n)->d6 st a'.n.toNat b'->Uni st (.one a b) false st
 | bindB {st:a6} {a b a' b':T}:cK st a a'->cK st b b'->a'.kind≠1->b'.kind=1->¬ d6 st b'.n.toNat a'->Uni st (.one a b) true (st.set b'.n.toNat (some a'))
 | occB {st:a6} {a b a' b':T}:cK st a a'->cK st b b'->a'.kind≠1->b'.kind=1->d6 st b'.n.toNat a'->Uni st (.one a b) false st
 | clash {st:a6} {a b a' b':T}:cK st a a'->cK st b b'->a'.kind≠1->b'.kind≠1->gd a' b'=false->Uni st (.one a b) false st
 | kids {st st':a6} {a b a' b':T} {r:Bool}:cK st a a'->cK st b b'->a'.kind≠1->b'.kind≠1->gd a' b'=true->Uni st (.list a'.kids b'.kids) r st'->Uni st (.one a b) r st'
 | nil {st:a6}:Uni st (.list [] []) true st
 | stop {st st':a6} {a b:T} {xs ys:List T}:Uni st (.one a b) false st'->Uni st (.list (a::xs) (b::ys)) false st'
 | go {st st1 st':a6} {a b:T} {xs ys:List T} {r:Bool}:Uni st (.one a b) true st1->Uni st1 (.list xs ys) r st'->Uni st (.list (a::xs) (b::ys)) r st'
def okJ (N:Nat):Job->Prop
 | .one a b=>(okU N a/\wT a<=1048576)/\(okU N b/\wT b<=1048576)
 | .list xs ys=>(∀ a∈xs,okU N a/\wT a<=1048576)/\(∀ b∈ys,okU N b/\wT b<=1048576)/\xs.length=ys.length
theorem ig {N:Nat} {t:T} (h:okU N t/\wT t<=1048576):∀ x∈t.kids,okU N x/\wT x<=1048576:=by
 intro x hx
 refine ⟨jQ h.1.kids x hx,?_⟩
 have h1:=Bg hx
 have h2:=h.2
 cases t
 rw [wT] at h2
 simp only [T.kids] at h1
 omega
theorem lV {a b:T} (h:gd a b=true):a.kids.length=b.kids.length:=by
 rw [gd] at h
 simp only [Bool.and_eq_true,decide_eq_true_eq] at h
 exact h.2.2.2
theorem qy {N:Nat} {st:a6} (h:Good N st) {a:T} (hk:a.kind=1) (hl:fw st a=none) (ho:okU N a):st[a.n.toNat]?=some none:=by
 obtain ⟨h0,h1,_⟩:=ho.var hk
 rcases ye.1 hl hk with e|e
 ·have:=List.getElem?_eq_none_iff.1 e
  have:=h.len
  omega
 ·exact e
theorem Uni.good {N:Nat} {st st':a6} {j:Job} {r:Bool} (hu:Uni st j r st'):Good N st->okJ N j->Good N st'/\(st'=st ∨ unb st'<unb st):=by
 induction hu with
 | same=>exact fun h _=>⟨h,.inl rfl⟩
 | occA=>exact fun h _=>⟨h,.inl rfl⟩
 | occB=>exact fun h _=>⟨h,.inl rfl⟩
 | clash=>exact fun h _=>⟨h,.inl rfl⟩
 | nil=>exact fun h _=>⟨h,.inl rfl⟩
 | bindA ha hb hk hns ho=>
  rename_i a' b'
  intro h hj
  have h1:=dp h ha hj.1
  have h2:=dp h hb hj.2
  have hf:=qy h hk (gj ha) h1.1
  have:=pH _ _ b' hf
  exact ⟨h.set hf h2.1 h2.2 ho,.inr (by omega)⟩
 | bindB ha hb hns hk ho=>
  rename_i a' b'
  intro h hj
  have h1:=dp h ha hj.1
  have h2:=dp h hb hj.2
  have hf:=qy h hk (gj hb) h2.1
  have:=pH _ _ a' hf
  exact ⟨h.set hf h1.1 h1.2 ho,.inr (by omega)⟩
 | kids ha hb _ _ hd _ ih=>
  intro h hj
  exact ih h ⟨ig (dp h ha hj.1),ig (dp h hb hj.2),lV hd⟩
 | stop _ ih=>
  intro h hj
  exact ih h ⟨hj.1 _ (List.mem_cons_self ..),hj.2.1 _ (List.mem_cons_self ..)⟩
 | go _ _ ih1 ih2=>
  intro h hj
  obtain ⟨h1,h2⟩:=ih1 h ⟨hj.1 _ (List.mem_cons_self ..),hj.2.1 _ (List.mem_cons_self ..)⟩
  obtain ⟨h3,h4⟩:=ih2 h1 ⟨fun a ha=>hj.1 a (List.mem_cons_of_mem _ ha),fun b hb=>hj.2.1 b (List.mem_cons_of_mem _ hb),by have:=hj.2.2; simpa using this⟩
  refine ⟨h3,?_⟩
  rcases h2 with rfl|h2
  ·exact h4
  ·rcases h4 with rfl|h4
   ·exact .inr h2
   ·exact .inr (by omega)
open Classical in
theorem Bx {N:Nat}:∀ (U:Nat) (st:a6),Good N st->unb st<=U->∀ j,okJ N j->∃ r st',Uni st j r st':=by
 intro U
 induction U using Nat.strongRecOn with
 | _ U ihU=>
  intro st hg hU
  -- lists of terms of which each is known to have an answer
  have hlist:∀ (xs ys:List T),okJ N (.list xs ys)->(∀ a∈xs,∀ b,okJ N (.one a b)->∃ r st',Uni st (.one a b) r st')->∃ r st',Uni st (.list xs ys) r st':=by
   intro xs
   induction xs with
   | nil=>
    intro ys hj _
    have:ys=[]:=List.eq_nil_of_length_eq_zero hj.2.2.symm
    subst this
    exact ⟨true,st,.nil⟩
   | cons a xs ih=>
    intro ys hj hP
    cases ys with
    | nil=>have:=hj.2.2; simp at this
    | cons b ys=>
     have hjab:okJ N (.one a b):=⟨hj.1 _ (List.mem_cons_self ..),hj.2.1 _ (List.mem_cons_self ..)⟩
     have hjl:okJ N (.list xs ys):=⟨fun a ha=>hj.1 a (List.mem_cons_of_mem _ ha),fun b hb=>hj.2.1 b (List.mem_cons_of_mem _ hb),by have:=hj.2.2; simpa using this⟩
     obtain ⟨r,st1,h1⟩:=hP a (List.mem_cons_self ..) b hjab
     cases r with
     | false=>exact ⟨false,st1,.stop h1⟩
     | true=>
      obtain ⟨hg1,hu1⟩:=h1.good hg hjab
      rcases hu1 with rfl|hu1
      ·obtain ⟨r,st2,h2⟩:=ih ys hjl fun a ha=>hP a (List.mem_cons_of_mem _ ha)
       exact ⟨r,st2,.go h1 h2⟩
      ·obtain ⟨r,st2,h2⟩:=ihU (unb st1) (by omega) st1 hg1 (Nat.le_refl _) _ hjl
       exact ⟨r,st2,.go h1 h2⟩
  obtain ⟨rk,hrk⟩:=hg.rk
  have hone:∀ (m:Nat) (a:T),(∀ x∈vT a,∀ u,st[x]?=some (some u)->rk x<m)->∀ b,okJ N (.one a b)->∃ r st',Uni st (.one a b) r st':=by
   intro m
   induction m using Nat.strongRecOn with
   | _ m ihm=>
    refine T.ind fun k n s ks ih hr b hj=>?_
    obtain ⟨b',hb⟩:=Cj hg b
    have hbo:=dp hg hb hj.2
    cases hl:fw st (.mk k n s ks) with
    | some u=>
     obtain ⟨hk,hs⟩:=cO.1 hl
     have hlt:=hr _ (by rw [gA hk]; exact List.mem_singleton.2 rfl) u hs
     have hju:okJ N (.one u b):=⟨hg.look_ok hl,hj.2⟩
     obtain ⟨r,st',hu⟩:=ihm _ hlt u (fun x hx _ _=>hrk _ _ hs x hx) b hju
     refine ⟨r,st',?_⟩
     cases hu with
     | same h1 h2 h3 h4 h5=>exact .same (.step hl h1) h2 h3 h4 h5
     | bindA h1 h2 h3 h4 h5=>exact .bindA (.step hl h1) h2 h3 h4 h5
     | occA h1 h2 h3 h4 h5=>exact .occA (.step hl h1) h2 h3 h4 h5
     | bindB h1 h2 h3 h4 h5=>exact .bindB (.step hl h1) h2 h3 h4 h5
     | occB h1 h2 h3 h4 h5=>exact .occB (.step hl h1) h2 h3 h4 h5
     | clash h1 h2 h3 h4 h5=>exact .clash (.step hl h1) h2 h3 h4 h5
     | kids h1 h2 h3 h4 h5 h6=>exact .kids (.step hl h1) h2 h3 h4 h5 h6
    | none=>
     have ha:cK st (.mk k n s ks) (.mk k n s ks):=.stop hl
     by_cases hk:(T.mk k n s ks).kind=1
     ·by_cases hsame:b'.kind=1/\(T.mk k n s ks).n=b'.n
      ·exact ⟨_,_,.same ha hb hk hsame.1 hsame.2⟩
      ·by_cases ho:d6 st (T.mk k n s ks).n.toNat b'
       ·exact ⟨_,_,.occA ha hb hk hsame ho⟩
       ·exact ⟨_,_,.bindA ha hb hk hsame ho⟩
     ·by_cases hkb:b'.kind=1
      ·by_cases ho:d6 st b'.n.toNat (T.mk k n s ks)
       ·exact ⟨_,_,.occB ha hb hk hkb ho⟩
       ·exact ⟨_,_,.bindB ha hb hk hkb ho⟩
      ·cases hd:gd (T.mk k n s ks) b' with
       | false=>exact ⟨_,_,.clash ha hb hk hkb hd⟩
       | true=>
        obtain ⟨r,st',hu⟩:=hlist ks b'.kids ⟨ig hj.1,ig hbo,lV hd⟩ fun a ha' b2 hj2=>
         ih a ha' (fun x hx u hs=>hr x (by rw [uf hk]; exact kn.2 ⟨a,ha',hx⟩) u hs) b2 hj2
        exact ⟨r,st',.kids ha hb hk hkb hd hu⟩
  have hall:∀ a b,okJ N (.one a b)->∃ r st',Uni st (.one a b) r st':=by
   intro a b hj
   have hM:∀ l:List Nat,∃ M,∀ m∈l,rk m<M:=by
    intro l
    induction l with
    | nil=>exact ⟨0,by simp⟩
    | cons x l ih=>
     obtain ⟨M,hM⟩:=ih
     refine ⟨M+rk x+1,fun m hm=>?_⟩
     rcases List.mem_cons.1 hm with rfl|hm
     ·omega
     ·have:=hM m hm; omega
   obtain ⟨M,hM⟩:=hM (vT a)
   exact hone M a (fun x hx _ _=>hM x hx) b hj
  intro j hj
  cases j with
  | one a b=>exact hall a b hj
  | list xs ys=>exact hlist xs ys hj fun a _ b hjb=>hall a b hjb
/- resolved terms -/
inductive Fy where
 | one (t u:T)
 | list (ts us:List T)
inductive Res (st:a6):Fy->Prop
 | one {t v:T} {us:List T}:cK st t v->Res st (.list v.kids us)->Res st (.one t (.mk v.kind v.n v.name us))
 | nil:Res st (.list [] [])
 | cons {t u:T} {ts us:List T}:Res st (.one t u)->Res st (.list ts us)->Res st (.list (t::ts) (u::us))
theorem BP {N:Nat} {st:a6} (h:Good N st) (t:T) (ho:okU N t):∃ u,Res st (.one t u):=by
 obtain ⟨rk,hrk⟩:=h.rk
 have hlist:∀ ts:List T,(∀ t∈ts,∃ u,Res st (.one t u))->∃ us,Res st (.list ts us):=by
  intro ts
  induction ts with
  | nil=>exact fun _=>⟨[],.nil⟩
  | cons t ts ih=>
   intro hP
   obtain ⟨u,hu⟩:=hP t (List.mem_cons_self ..)
   obtain ⟨us,hus⟩:=ih fun x hx=>hP x (List.mem_cons_of_mem _ hx)
   exact ⟨u::us,.cons hu hus⟩
 have hone:∀ (m:Nat) (a:T),(∀ x∈vT a,∀ u,st[x]?=some (some u)->rk x<m)->(okU N a)->∃ u,Res st (.one a u):=by
  intro m
  induction m using Nat.strongRecOn with
  | _ m ihm=>
   refine T.ind fun k n s ks ih hr ho=>?_
   cases hl:fw st (.mk k n s ks) with
   | some u=>
    obtain ⟨hk,hs⟩:=cO.1 hl
    have hlt:=hr _ (by rw [gA hk]; exact List.mem_singleton.2 rfl) u hs
    obtain ⟨u',hu⟩:=ihm _ hlt u (fun x hx _ _=>hrk _ _ hs x hx) (h.look_ok hl).1
    refine ⟨u',?_⟩
    cases hu with
    | one h1 h2=>exact .one (.step hl h1) h2
   | none=>
    by_cases hk:(T.mk k n s ks).kind=1
    ·have:=(ho.var hk).2.2.2
     have e:ks=[]:=this
     subst e
     exact ⟨_,.one (.stop hl) .nil⟩
    ·obtain ⟨us,hus⟩:=hlist ks fun a ha=>ih a ha (fun x hx u hs=>hr x (by rw [uf hk]; exact kn.2 ⟨a,ha,hx⟩) u hs) (jQ ho.kids a ha)
     exact ⟨_,.one (.stop hl) hus⟩
 have hM:∀ l:List Nat,∃ M,∀ m∈l,rk m<M:=by
  intro l
  induction l with
  | nil=>exact ⟨0,by simp⟩
  | cons x l ih=>
   obtain ⟨M,hM⟩:=ih
   refine ⟨M+rk x+1,fun m hm=>?_⟩
   rcases List.mem_cons.1 hm with rfl|hm
   ·omega
   ·have:=hM m hm; omega
 obtain ⟨M,hM⟩:=hM (vT t)
 exact hone M t (fun x hx _ _=>hM x hx) ho

end Go.Proofs.YtfcbhfjomgopbaaGreat

/- spec: walks, occurrence, unification. -/
namespace Go.Proofs.YtfcbhfjomgopbaaGreat
open Go Go.RowKit
/- bindings as a row of terms -/
def KnU (S:ar) (c:Array Value) (st:a6):Prop:=st.length * 4<=c.size/\∀ i (h:i<st.length),(st[i]=none->ba c (i * 4) 4=kS)/\(∀ t,st[i]=some t->RdT S (ba c (i * 4) 4) t)
abbrev kvU (kb N kp:Nat):Value:=.slice (some ⟨kb,0,none⟩) N kp
theorem KnU.set {S:ar} {c:Array Value} {st:a6} (h:KnU S c st) {n:Nat} (hn:n<st.length) {cs:List Value} {u:T} (hu:RdT S cs u):KnU S (bO c (n * 4) cs) (st.set n (some u)):=by
 have hlc:=hu.length
 have h1:=h.1
 have hs:st.length * 4<=(bO c (n * 4) cs).size:=by rw [fr _ _ _ (by omega)]; exact h1
 refine ⟨by rw [List.length_set]; exact hs,fun i hi=>?_⟩
 rw [List.length_set] at hi
 by_cases e:n=i
 ·subst e
  rw [List.getElem_set_self]
  refine ⟨fun h=>(by cases h),fun t ht=>?_⟩
  simp only [Option.some.injEq] at ht
  subst ht
  have:=gp (c:=c) (o:=n * 4) (vs:=cs) (by omega)
  rw [hlc] at this
  rw [this]
  exact hu
 ·rw [List.getElem_set_ne e,iI (by omega) (by omega)]
  exact h.2 i hi
theorem KnU.mono {S S':ar} {c:Array Value} {st:a6} (h:KnU S c st) (hs:Sle S S'):KnU S' c st:=⟨h.1,fun i hi=>⟨(h.2 i hi).1,fun t ht=>((h.2 i hi).2 t ht).mono hs⟩⟩
def sA (b:Nat) (r:Nat->Nat) (st:a6) (w:World):Nat:=
 match w.heap[b]? with
 | some (Obj.cells c _ _)=>(match c[0]?,c[1]? with
  | some (Value.int _ k),some (Value.int _ n)=>if (fw st (.mk k n emptyB [])).isSome=true then r n.toNat+1 else 0
  | _,_=>0)
 | _=>0
theorem ph {w0 w:World} {X:List Nat} {L:List Item} {S S0:ar} {cs:List Value} {t:T} {E:TypeId} {b i:Nat} (hI:Inv w0 X L S w) (hi:L[i]?=some (.blk b (.cells cs.toArray E))) (h:RdT S0 cs t) (r:Nat->Nat) (st:a6) :
  sA b r st w=if (fw st t).isSome=true then r t.n.toNat+1 else 0:=by
 obtain ⟨kv,rfl,_⟩:=RdT.iff.1 h
 have hb:w.heap[b]?=_:=hI.its _ (List.mem_of_getElem? hi)
 unfold sA
 rw [hb]
 obtain ⟨k,n,s,ks⟩:=t
 rfl
section
attribute [local irreducible] Run CondV ak bg
theorem kG {N:Nat} {st:a6} (hg:Good N st) {t v:T} (hw:cK st t v) (ht:okU N t) {S:ar} {cs:List Value} {kb kp:Nat} {kc:Array Value} (h:RdT S cs t) (hk:KnU S kc st) :
  Tri Tryz.prog Cd [.agg cs.toArray,kvU kb N kp] [.blk kb (.cells kc ac)] S fun r I' S'=>S'=S/\I'=[.blk kb (.cells kc ac)]/\∃ cs',r=.agg cs'.toArray/\RdT S cs' v:=by
 intro w hI
 obtain ⟨X,hX⟩:∃ X,X=bv [Item.blk kb (.cells kc ac)]:=⟨_,rfl⟩
 rw [<- hX] at hI ⊢
 have hlN:=hg.len
 obtain ⟨r,hr⟩:=hg.rk
 refine vE ?_
 unfold sO;dsimp only
 refine bt hI fun b2 w' hI=>?_
 refine bC hI bA fun b4 w' hI=>?_
 have hI:Inv w X [.blk kb (.cells kc ac),.blk b2 (.cells cs.toArray ac),.blk b4 (.cells #[.int .i64 0,.int .i64 0,.string ⟨#[]⟩,.slice none 0 0] ac)] S w':=hI
 refine ⟨fun w'=>∃ (t':T) (cs':List Value),cK st t' v/\okU N t'/\RdT S cs' t'/\Inv w X [.blk kb (.cells kc ac),.blk b2 (.cells cs'.toArray ac),.blk b4 (.cells #[.int .i64 0,.int .i64 0,.string ⟨#[]⟩,.slice none 0 0] ac)] S w',
  fun w'=>sA b2 r st w',⟨t,cs,hw,ht,h,hI⟩,?_⟩
 intro _ _ _ _ _ _ _ _ _ _ _ _ _ _ _ _ _ _ _ _ _ _ _ _ w'
 rintro ⟨t',cs',hw',ht',hcs',hI⟩
 have hrank:=ph hI (i:=1) rfl hcs' r st
 have hcs0:=hcs'
 obtain ⟨kv,rfl,_⟩:=RdT.iff.1 hcs'
 refine ⟨fun q w'=>q=.bool (fw st t').isSome/\Inv w X [.blk kb (.cells kc ac),.blk b2 (.cells #[.int .i64 t'.kind,.int .i64 t'.n,.string t'.name,kv] ac),.blk b4 (.cells #[.int .i64 0,.int .i64 0,.string ⟨#[]⟩,.slice none 0 0] ac)] S w',?_,?_⟩
 ·refine ah hI 1 rfl aU aR rfl ?_
  refine bu ?_
  by_cases hk1:t'.kind=1
  ·rw [decide_eq_true hk1]
   obtain ⟨hn0,hnN,_⟩:=ht'.var hk1
   obtain ⟨j,hj⟩:∃ j:Nat,t'.n=j:=⟨t'.n.toNat,by omega⟩
   have hjN:j<N:=by omega
   have hjs:j<st.length:=by omega
   repeat (first|refine ab ?_|refine ad (by decide) ?_|refine aa ?_|refine af ?_|refine ag ?_)
   refine ah hI 1 rfl a9 aR rfl ?_
   refine wl aC ?_
   refine bz ?_
   rw [decide_eq_true hnN]
   repeat (first|refine ab ?_|refine ad (by decide) ?_|refine aa ?_|refine af ?_|refine ag ?_)
   refine ah hI 1 rfl a9 aR rfl ?_
   rw [hj]
   refine aT aC hjN ?_
   refine bb aU ?_
   rw [Nat.zero_add,Nat.add_zero]
   obtain ⟨hno,hso⟩:=hk.2 j hjs
   rw [hj] at hI
   have hlk:fw st t'=st[j]:=by
    rw [fw,if_pos hk1,hj,Int.toNat_natCast,List.getElem?_eq_getElem hjs]; rfl
   rw [hlk]
   cases hst2:st[j] with
   | none=>
    have hcell:=hno hst2
    refine bj hI 0 aR rfl (by have:=aS hcell 0 _ rfl; exact this) ?_
    refine bQ ?_
    repeat (first|refine ab ?_|refine ad (by decide) ?_|refine aa ?_|refine af ?_|refine ag ?_)
    refine ⟨by simp,hI⟩
   | some t0=>
    have hR:=hso t0 hst2
    have hk0:t0.kind≠0:=(hg.ok t0 (by rw [<- hst2]; exact List.getElem_mem hjs)).kind
    obtain ⟨kv0',hcell,_,_,_,_⟩:=RdT.iff.1 hR
    refine bj hI 0 aR rfl (by have:=aS hcell 0 _ rfl; exact this) ?_
    refine bQ ?_
    rw [decide_eq_false hk0]
    repeat (first|refine ab ?_|refine ad (by decide) ?_|refine aa ?_|refine af ?_|refine ag ?_)
    refine ⟨rfl,hI⟩
  ·rw [decide_eq_false hk1]
   repeat (first|refine ab ?_|refine ad (by decide) ?_|refine aa ?_|refine af ?_|refine ag ?_)
   refine ⟨?_,hI⟩
   rw [fw,if_neg hk1]; rfl
 intro q _ _ _ _ _ _ _ _ _ _ _ _ _ _ _ _ _ _ w'
 rintro ⟨rfl,hI⟩
 refine bd (fun hb=>?_) (fun hb=>?_)
 ·obtain ⟨u,hl⟩:=Option.isSome_iff_exists.1 hb
  obtain ⟨hk1,hs⟩:=cO.1 hl
  obtain ⟨hn0,hnN,_⟩:=ht'.var hk1
  obtain ⟨j,hj⟩:∃ j:Nat,t'.n=j:=⟨t'.n.toNat,by omega⟩
  have hjN:j<N:=by omega
  have hjs:j<st.length:=by omega
  rw [hj,Int.toNat_natCast] at hs
  have hst2:st[j]=some u:=by rw [List.getElem?_eq_getElem hjs,Option.some.injEq] at hs; exact hs
  have hR:=(hk.2 j hjs).2 u hst2
  have hwu:cK st u v:=by
   cases hw' with
   | stop h0=>rw [hl] at h0; cases h0
   | step h1 h2=>rw [hl,Option.some.injEq] at h1; rw [h1]; exact h2
  have hu:=(hg.look_ok hl).1
  refine ah hI 1 rfl a9 aR rfl ?_
  rw [hj]
  refine aT aC hjN ?_
  rw [Nat.zero_add]
  refine bY hI 0 (ba kc (j * 4) 4) al rfl hR.length (fun i v hi=>aS rfl i v hi) ?_
  refine bq hI 1 rfl al (by simpa using hR.length) rfl (by simpa using hR.one) fun w' hI=>?_
  have hI:Inv w X [.blk kb (.cells kc ac),.blk b2 (.cells (ba kc (j * 4) 4).toArray ac),.blk b4 (.cells #[.int .i64 0,.int .i64 0,.string ⟨#[]⟩,.slice none 0 0] ac)] S w':=hI
  refine ⟨⟨u,_,hwu,hu,hR,hI⟩,?_⟩
  have hrank2:=ph hI (i:=1) rfl hR r st
  show sA b2 r st w'<sA b2 r st _
  rw [hrank,hrank2,if_pos hb,hj,Int.toNat_natCast]
  split
  ·rename_i hl2
   obtain ⟨u2,hl2⟩:=Option.isSome_iff_exists.1 hl2
   have:=hr j u hs u.n.toNat (by rw [gA (cO.1 hl2).1]; exact List.mem_singleton.2 rfl)
   omega
  ·omega
 ·have hv:v=t':=by
   cases hw' with
   | stop _=>rfl
   | step h1 _=>rw [h1] at hb; cases hb
  subst hv
  refine a8 hI 1 al rfl rfl ?_
  refine bq hI 2 rfl al rfl rfl (by simpa using hcs0.one) fun w' hI=>?_
  refine dJ hI 2 al rfl rfl ?_
  exact ⟨_,_,_,rfl,hI.pick [true,false,false],Ext.refl _ _ _,rfl,rfl,_,rfl,hcs0⟩
end
/- the variables of a term in a list of numbers -/
theorem C7 (l:List Int) (n x:Int):x∈tR l n↔x∈l ∨ x=n:=by
 unfold tR
 split
 ·rename_i h
  rw [AW] at h
  constructor
  ·exact .inl
  ·rintro (h1|rfl)
   ·exact h1
   ·exact h
 ·simp
mutual
theorem iu {N:Nat}:∀ (t:T) (l:List Int),okU N t->∀ x,x∈eC t l↔x∈l ∨ ∃ m∈vT t,x=(m:Int)
 | .mk k n s ks,l,h,x=>by
  rw [okU] at h
  rw [eC,vT]
  by_cases hk:k=1
  ·rw [if_pos hk,if_pos hk,C7]
   have:=(h.2.1 hk).1
   constructor
   ·rintro (h1|h1)
    ·exact .inl h1
    ·exact .inr ⟨n.toNat,List.mem_singleton.2 rfl,by omega⟩
   ·rintro (h1|⟨m,hm,e⟩)
    ·exact .inl h1
    ·rw [List.mem_singleton] at hm
     exact .inr (by omega)
  ·rw [if_neg hk,if_neg hk]
   exact v5 ks l h.2.2.1 x
theorem v5 {N:Nat}:∀ (ts:List T) (l:List Int),eO N ts->∀ x,x∈dV ts l↔x∈l ∨ ∃ m∈vTL ts,x=(m:Int)
 | [],l,_,x=>by simp [dV,vTL]
 | t::ts,l,h,x=>by
  rw [eO] at h
  rw [dV,vTL,v5 ts _ h.2,iu t l h.1]
  simp only [List.mem_append]
  constructor
  ·rintro ((h|⟨m,h,e⟩)|⟨m,h,e⟩)
   ·exact .inl h
   ·exact .inr ⟨m,.inl h,e⟩
   ·exact .inr ⟨m,.inr h,e⟩
  ·rintro (h|⟨m,h|h,e⟩)
   ·exact .inl (.inl h)
   ·exact .inl (.inr ⟨m,h,e⟩)
   ·exact .inr ⟨m,h,e⟩
end
mutual
theorem qO:∀ (t:T) (l:List Int),l.Nodup->(eC t l).Nodup
 | .mk k n s ks,l,h=>by
  rw [eC]
  split
  ·exact BZ n h
  ·exact yx ks l h
theorem yx:∀ (ts:List T) (l:List Int),l.Nodup->(dV ts l).Nodup
 | [],l,h=>by rw [dV]; exact h
 | t::ts,l,h=>by rw [dV]; exact yx ts _ (qO t l h)
end
theorem Eh (l:List Int) (n:Int):l <+: tR l n:=by
 unfold tR
 split
 ·exact List.prefix_refl _
 ·exact List.prefix_append _ _
mutual
theorem uz:∀ (t:T) (l:List Int),l <+: eC t l
 | .mk k n s ks,l=>by
  rw [eC]
  split
  ·exact Eh l n
  ·exact vd ks l
theorem vd:∀ (ts:List T) (l:List Int),l <+: dV ts l
 | [],l=>by rw [dV]; exact List.prefix_refl _
 | t::ts,l=>by
  rw [dV]
  exact (uz t l).trans (vd ts _)
end
theorem Ad (t:T):dk t<=1+(wT t:Int):=by
 have:=Bl [t]
 simp only [cJ,wL,List.length_cons,List.length_nil] at this
 omega
theorem EW:∀ (N:Nat) (l:List Int),l.Nodup->(∀ x∈l,0<=x/\x<N)->l.length<=N:=by
 intro N l hd h
 have hsub:∀ x∈l,x∈(List.range N).map (fun i:Nat=>(i:Int)):=fun x hx=>by
  obtain ⟨h1,h2⟩:=h x hx
  exact List.mem_map.2 ⟨x.toNat,List.mem_range.2 (by omega),by omega⟩
 have:=List.Nodup.length_le_of_subset hd hsub
 simpa using this
section
attribute [local irreducible] Run CondV ak bg
open Classical in
theorem v3 {N:Nat} (hN:N<=1000000) {st:a6} (hg:Good N st) {t:T} (ht:okU N t) (hwt:wT t<=1048576) (n:Int) (hn0:0<=n) {S:ar} {cs:List Value} {kb kp:Nat} {kc:Array Value} (h:RdT S cs t) (hk:KnU S kc st) :
  Tri Tryz.prog yJ [.int .i64 n,.agg cs.toArray,kvU kb N kp] [.blk kb (.cells kc ac)] S fun r I' S'=>S'=S/\I'=[.blk kb (.cells kc ac)]/\r=.bool (decide (d6 st n.toNat t)):=by
 intro w hI
 obtain ⟨X,hX⟩:∃ X,X=bv [Item.blk kb (.cells kc ac)]:=⟨_,rfl⟩
 rw [<- hX] at hI ⊢
 have hlN:=hg.len
 have hlc:=h.length
 have hct:=Ad t
 refine rb ?_
 unfold nE
 refine bt hI fun b4 w' hI=>?_
 have hI:Inv w X [.blk kb (.cells kc ac),.blk b4 (.cells cs.toArray ac)] S w':=hI
 refine a8 hI 1 al rfl (by simpa using hlc) ?_
 have hI:Inv w X [.blk kb (.cells kc ac)] S w':=hI.pick [true,false]
 have hI:=hI.rowNil ce 1
 refine Run.call (A:=[_]) mv lT hI (pk t S cs (.slice none 0 0) [] h (by simp only [List.length_nil]; omega)) fun v' I' S' w'=>?_
 rintro ⟨rfl,eS⟩ _ hI
 rw [eS] at hI
 clear eS
 refine ⟨fun i t7 w'=>∃ (j:Nat) (ws:List Int),i=.int .i64 j/\j<=ws.length/\ws.Nodup/\(∀ x∈ws,0<=x/\x<N)/\(∀ x∈ws,∃ m∈vT t,Rch st m x.toNat)/\(∀ m∈vT t,(m:Int)∈ws)/\
   (∀ k (hk:k<ws.length),k<j->ws[k]≠n/\∀ u,st[ws[k].toNat]?=some (some u)->∀ m∈vT u,(m:Int)∈ws)/\Inv w X [.blk kb (.cells kc ac),em t7 ws] S w',
  fun i _ _=>N - (intOf i).toNat,⟨0,_,rfl,Nat.zero_le _,qO t [] List.nodup_nil,fun x hx=>?_,fun x hx=>?_,fun m hm=>?_,fun k _ hk0=>absurd hk0 (by omega),hI⟩,?_⟩
 ·rcases (iu t [] ht x).1 hx with hx|⟨m,hm,rfl⟩
  ·cases hx
  ·have:=Dw t ht m hm
   omega
 ·rcases (iu t [] ht x).1 hx with hx|⟨m,hm,rfl⟩
  ·cases hx
  ·exact ⟨m,hm,by rw [Int.toNat_natCast]; exact .refl m⟩
 ·exact (iu t [] ht _).2 (.inr ⟨m,hm,rfl⟩)
 intro t8 _ _ t7 _ _ _ _ _ _ _ _ _ _ _ _ _ _ _ _ _ _ _ _ _ _ _ _ _ _ _ _ _ _ _ _ _ _ _ _ _ _ w'
 rintro ⟨j,ws,rfl,hj,hnd,hrng,hreach,hroot,hdone,hI⟩
 have hwl:=EW N ws hnd hrng
 obtain ⟨S1,hle,hrd,hI1,hback⟩:=Inv.lend (A:=[_]) hI
 have hrd:=hrd.ints
 refine a5 hrd eU ?_
 refine bz ?_
 refine bf (fun hji=>?_) (fun hji=>?_)
 ·have hj':j<ws.length:=by omega
  obtain ⟨hx0,hxN⟩:=hrng _ (List.getElem_mem hj')
  obtain ⟨x,hx⟩:∃ x:Nat,ws[j]=x:=⟨ws[j].toNat,by omega⟩
  have hxs:x<st.length:=by omega
  refine ⟨fun t7' w'=>∃ ws':List Int,ws'.Nodup/\(∀ x∈ws',0<=x/\x<N)/\(∀ x∈ws',∃ m∈vT t,Rch st m x.toNat)/\(∀ y∈ws,y∈ws')/\ws <+: ws'/\
   ws[j]≠n/\(∀ u,st[x]?=some (some u)->∀ m∈vT u,(m:Int)∈ws')/\Inv w X [.blk kb (.cells kc ac),em t7' ws'] S w',?_,?_⟩
  ·refine kw hI1 hrd eU aR hj' (fun cs hcs=>hcs) ?_
   refine bu ?_
   refine bf (fun he=>?_) (fun he=>?_)
   ·have hocc:d6 st n.toNat t:=by
     obtain ⟨m,hm,hr⟩:=hreach _ (List.getElem_mem hj')
     rw [he] at hr
     exact ⟨m,hm,hr⟩
    have hI:=hback _ _ hI1
    refine ⟨_,_,_,rfl,hI.pick [true,false],Ext.refl _ _ _,rfl,rfl,?_⟩
    rw [decide_eq_true hocc]
   ·refine ⟨fun q w'=>q=.bool (decide (∃ u,st[x]?=some (some u)))/\Inv w X [.blk kb (.cells kc ac)] S1 w',?_,?_⟩
    ·refine kw hI1 hrd eU aR hj' (fun cs hcs=>hcs) ?_
     refine wl aC ?_
     refine bz ?_
     rw [decide_eq_true hxN]
     repeat (first|refine ab ?_|refine ad (by decide) ?_|refine aa ?_|refine af ?_|refine ag ?_)
     refine kw hI1 hrd eU aR hj' (fun cs hcs=>hcs) ?_
     rw [hx]
     refine aT aC (by omega) ?_
     refine bb aU ?_
     rw [Nat.zero_add,Nat.add_zero]
     obtain ⟨hno,hso⟩:=hk.2 x hxs
     cases hst2:st[x] with
     | none=>
      have hcell:=hno hst2
      refine bj hI1 0 aR rfl (by have:=aS hcell 0 _ rfl; exact this) ?_
      refine bQ ?_
      repeat (first|refine ab ?_|refine ad (by decide) ?_|refine aa ?_|refine af ?_|refine ag ?_)
      refine ⟨?_,hI1⟩
      rw [decide_eq_false (show ¬ ∃ u,st[x]?=some (some u) from fun ⟨u,hu⟩=>by rw [List.getElem?_eq_getElem hxs,hst2] at hu; cases hu)]
      simp
     | some t0=>
      have hR:=hso t0 hst2
      have hk0:t0.kind≠0:=(hg.ok t0 (by rw [<- hst2]; exact List.getElem_mem hxs)).kind
      obtain ⟨kv0',hcell,_,_,_,_⟩:=RdT.iff.1 hR
      refine bj hI1 0 aR rfl (by have:=aS hcell 0 _ rfl; exact this) ?_
      refine bQ ?_
      rw [decide_eq_false hk0]
      repeat (first|refine ab ?_|refine ad (by decide) ?_|refine aa ?_|refine af ?_|refine ag ?_)
      refine ⟨?_,hI1⟩
      rw [decide_eq_true (show ∃ u,st[x]?=some (some u) from ⟨t0,by rw [List.getElem?_eq_getElem hxs,hst2]⟩)]
      rfl
    intro q _ _ _ _ _ _ _ _ _ _ _ _ _ _ _ _ _ w'
    rintro ⟨rfl,hI1⟩
    refine bf (fun hq=>?_) (fun hq=>?_)
    ·obtain ⟨u,hu⟩:=hq
     have hst2:st[x]=some u:=by rw [List.getElem?_eq_getElem hxs,Option.some.injEq] at hu; exact hu
     have hR:=(hk.2 x hxs).2 u hst2
     have hum:=List.mem_of_getElem? hu
     have hou:=hg.ok u hum
     have hwu:=hg.w u hum
     have hcu:=Ad u
     refine kw hI1 hrd eU aR hj' (fun cs hcs=>hcs) ?_
     rw [hx]
     refine aT aC (by omega) ?_
     rw [Nat.zero_add]
     refine bY hI1 0 (ba kc (x * 4) 4) al rfl hR.length (fun i v hi=>aS rfl i v hi) ?_
     have hI:=hback _ _ hI1
     refine Run.call (A:=[_]) mv lT hI (pk u S _ t7 ws hR (by omega)) fun v' I' S' w'=>?_
     rintro ⟨rfl,eS⟩ _ hI
     rw [eS] at hI
     clear eS
     have hmem:=iu u ws hou
     refine ⟨_,qO u ws hnd,fun y hy=>?_,fun y hy=>?_,fun y hy=>(hmem y).2 (.inl hy),uz u ws,by rw [<- hx]; exact he,fun u' hu' m hm=>?_,hI⟩
     ·rcases (hmem y).1 hy with hy|⟨m,hm,rfl⟩
      ·exact hrng y hy
      ·have:=Dw u hou m hm
       omega
     ·rcases (hmem y).1 hy with hy|⟨m,hm,rfl⟩
      ·exact hreach y hy
      ·obtain ⟨m0,hm0,hr0⟩:=hreach _ (List.getElem_mem hj')
       rw [hx,Int.toNat_natCast] at hr0
       exact ⟨m0,hm0,hr0.trans (.step hu hm (by rw [Int.toNat_natCast]; exact .refl m))⟩
     ·rw [hu,Option.some.injEq,Option.some.injEq] at hu'
      subst hu'
      exact (hmem _).2 (.inr ⟨m,hm,rfl⟩)
    ·have hI:=hback _ _ hI1
     exact ⟨ws,hnd,hrng,hreach,fun y hy=>hy,List.prefix_refl _,he,fun u hu=>absurd ⟨u,hu⟩ hq,hI⟩
  intro t7' _ _ _ _ _ _ _ _ _ _ _ _ _ _ _ _ _ _ _ _ _ _ _ _ _ _ _ _ _ _ _ _ _ _ w'
  rintro ⟨ws',hnd',hrng',hreach',hsub,hpf,hne,hcl,hI⟩
  have hl':=hpf.length_le
  have hpre:∀ k (hk:k<ws.length),ws'[k]'(by omega)=ws[k]:=fun k hk=>(hpf.getElem hk).symm
  refine b0 (by omega) ?_
  refine ⟨⟨j+1,ws',rfl,by omega,hnd',hrng',hreach',fun m hm=>hsub _ (hroot m hm),fun k hk' hkj=>?_,hI⟩,by simp [intOf]; omega⟩
  by_cases e:k=j
  ·subst e
   have e1:=hpre k hj'
   rw [e1]
   refine ⟨hne,fun u hu=>?_⟩
   rw [hx,Int.toNat_natCast] at hu
   exact hcl u hu
  ·have hkl:k<ws.length:=by omega
   rw [hpre k hkl]
   obtain ⟨h1,h2⟩:=hdone k hkl (by omega)
   exact ⟨h1,fun u hu m hm=>hsub _ (h2 u hu m hm)⟩
 ·have hj2:j=ws.length:=by omega
  have hno:¬ d6 st n.toNat t:=by
   rintro ⟨m,hm,hr⟩
   have key:∀ a c,Rch st a c->(a:Int)∈ws->(c:Int)∈ws:=by
    intro a c hac
    induction hac with
    | refl=>exact id
    | step h1 h2 _ ih=>
     intro ha
     obtain ⟨k,hk,e⟩:=List.mem_iff_getElem.1 ha
     refine ih ((hdone k hk (by omega)).2 _ ?_ _ h2)
     rw [e,Int.toNat_natCast]
     exact h1
   have h1:=key m _ hr (hroot m hm)
   obtain ⟨k,hk,e⟩:=List.mem_iff_getElem.1 h1
   exact (hdone k hk (by omega)).1 (by rw [e]; omega)
  have hI:=hback _ _ hI1
  refine ⟨_,_,_,rfl,hI.pick [true,false],Ext.refl _ _ _,rfl,rfl,?_⟩
  rw [decide_eq_false hno]
end

end Go.Proofs.YtfcbhfjomgopbaaGreat

/- spec.l3Unify. -/
namespace Go.Proofs.YtfcbhfjomgopbaaGreat
open Go Go.RowKit
/- the calls of a loop over two lists -/
inductive Chain (Call:a6->T->T->Bool->a6->Prop):a6->List T->List T->Bool->a6->Prop
 | nil {st:a6}:Chain Call st [] [] true st
 | stop {st st':a6} {a b:T} {xs ys:List T}:Call st a b false st'->Chain Call st (a::xs) (b::ys) false st'
 | go {st st1 st':a6} {a b:T} {xs ys:List T} {r:Bool}:Call st a b true st1->Chain Call st1 xs ys r st'->Chain Call st (a::xs) (b::ys) r st'
theorem Chain.head {Call:a6->T->T->Bool->a6->Prop} {st st':a6} {a b:T} {xs ys:List T} {r:Bool} (h:Chain Call st (a::xs) (b::ys) r st') :
  ∃ r1 st1,Call st a b r1 st1/\(r1=false->r=false/\st'=st1)/\(r1=true->Chain Call st1 xs ys r st'):=by
 cases h with
 | stop h=>exact ⟨false,_,h,fun _=>⟨rfl,rfl⟩,fun e=>(by cases e)⟩
 | go h h'=>exact ⟨true,_,h,fun e=>(by cases e),fun _=>h'⟩
theorem Chain.done {Call:a6->T->T->Bool->a6->Prop} {st st':a6} {r:Bool} (h:Chain Call st [] [] r st'):r=true/\st'=st:=by
 cases h
 exact ⟨rfl,rfl⟩
/- how a unification of walked terms ends -/
def DR (Call:a6->T->T->Bool->a6->Prop) (st:a6) (a' b':T) (r:Bool) (st':a6):Prop:=
 (a'.kind=1/\b'.kind=1/\a'.n=b'.n/\r=true/\st'=st) ∨
 (a'.kind=1/\¬ (b'.kind=1/\a'.n=b'.n)/\((¬ d6 st a'.n.toNat b'/\r=true/\st'=st.set a'.n.toNat (some b')) ∨ (d6 st a'.n.toNat b'/\r=false/\st'=st))) ∨
 (a'.kind≠1/\b'.kind=1/\((¬ d6 st b'.n.toNat a'/\r=true/\st'=st.set b'.n.toNat (some a')) ∨ (d6 st b'.n.toNat a'/\r=false/\st'=st))) ∨
 (a'.kind≠1/\b'.kind≠1/\((gd a' b'=false/\r=false/\st'=st) ∨ (gd a' b'=true/\Chain Call st a'.kids b'.kids r st')))
theorem Uni.calls {N:Nat} {Call:a6->T->T->Bool->a6->Prop} (hcall:∀ st a b a' b' r st',Good N st->okJ N (.one a b)->cK st a a'->cK st b b'->DR Call st a' b' r st'->Call st a b r st') {st st':a6} {j:Job} {r:Bool} (hu:Uni st j r st') :
  Good N st->okJ N j->match j with
   | .one a b=>Call st a b r st'
   | .list xs ys=>Chain Call st xs ys r st':=by
 induction hu with
 | same h1 h2 h3 h4 h5=>exact fun hg hj=>hcall _ _ _ _ _ _ _ hg hj h1 h2 (.inl ⟨h3,h4,h5,rfl,rfl⟩)
 | bindA h1 h2 h3 h4 h5=>exact fun hg hj=>hcall _ _ _ _ _ _ _ hg hj h1 h2 (.inr (.inl ⟨h3,h4,.inl ⟨h5,rfl,rfl⟩⟩))
 | occA h1 h2 h3 h4 h5=>exact fun hg hj=>hcall _ _ _ _ _ _ _ hg hj h1 h2 (.inr (.inl ⟨h3,h4,.inr ⟨h5,rfl,rfl⟩⟩))
 | bindB h1 h2 h3 h4 h5=>exact fun hg hj=>hcall _ _ _ _ _ _ _ hg hj h1 h2 (.inr (.inr (.inl ⟨h3,h4,.inl ⟨h5,rfl,rfl⟩⟩)))
 | occB h1 h2 h3 h4 h5=>exact fun hg hj=>hcall _ _ _ _ _ _ _ hg hj h1 h2 (.inr (.inr (.inl ⟨h3,h4,.inr ⟨h5,rfl,rfl⟩⟩)))
 | clash h1 h2 h3 h4 h5=>exact fun hg hj=>hcall _ _ _ _ _ _ _ hg hj h1 h2 (.inr (.inr (.inr ⟨h3,h4,.inl ⟨h5,rfl,rfl⟩⟩)))
 | kids h1 h2 h3 h4 h5 _ ih=>
  exact fun hg hj=>hcall _ _ _ _ _ _ _ hg hj h1 h2 (.inr (.inr (.inr ⟨h3,h4,.inr ⟨h5,ih hg ⟨ig (dp hg h1 hj.1),ig (dp hg h2 hj.2),lV h5⟩⟩⟩)))
 | nil=>exact fun _ _=>.nil
 | stop _ ih=>exact fun hg hj=>.stop (ih hg ⟨hj.1 _ (List.mem_cons_self ..),hj.2.1 _ (List.mem_cons_self ..)⟩)
 | go h1 _ ih1 ih2=>
  intro hg hj
  have hj1:okJ N (.one _ _):=⟨hj.1 _ (List.mem_cons_self ..),hj.2.1 _ (List.mem_cons_self ..)⟩
  exact .go (ih1 hg hj1) (ih2 (h1.good hg hj1).1 ⟨fun a ha=>hj.1 a (List.mem_cons_of_mem _ ha),fun b hb=>hj.2.1 b (List.mem_cons_of_mem _ hb),by have:=hj.2.2; simpa using this⟩)
def UC (N kp:Nat) (st:a6) (a b:T) (r:Bool) (st':a6):Prop:=∀ (S:ar) (cs ds:List Value) (kb:Nat) (kc:Array Value),RdT S cs a->RdT S ds b->KnU S kc st->
 Tri Tryz.prog z6 [.agg cs.toArray,.agg ds.toArray,kvU kb N kp] [.blk kb (.cells kc ac)] S fun q I' S'=>S'=S/\q=.bool r/\∃ kc',I'=[.blk kb (.cells kc' ac)]/\KnU S kc' st'
section
attribute [local irreducible] Run CondV ak bg
set_option maxHeartbeats 1000000 in
/- the case that a nonvariable meets a variable is handed on, so it comes with a contract -/
theorem pa {N kp:Nat} (hN:N<=1000000) {st st':a6} {a b a' b':T} {r:Bool} (hg:Good N st) (hj:okJ N (.one a b)) (hwa:cK st a a') (hwb:cK st b b')
  (hsw:a'.kind≠1->b'.kind=1->UC N kp st b' a' r st') (he:DR (UC N kp) st a' b' r st'):UC N kp st a b r st':=by
 intro S cs ds kb kc h h' hkc w hI
 have hlc:=h.length
 have hld:=h'.length
 have hoa:=dp hg hwa hj.1
 have hob:=dp hg hwb hj.2
 have hlN:=hg.len
 obtain ⟨X,hX⟩:∃ X,X=bv [Item.blk kb (.cells kc ac)]:=⟨_,rfl⟩
 rw [<- hX] at hI ⊢
 refine tT ?_
 unfold px;dsimp only
 refine bt hI fun b1 w' hI=>?_
 refine bt hI fun b2 w' hI=>?_
 have hI:Inv w X ([.blk b1 (.cells cs.toArray ac),.blk b2 (.cells ds.toArray ac)]++[.blk kb (.cells kc ac)]) S w':=hI.perm (List.perm_append_comm (l₁:=[_,_]) (l₂:=[_]))
 refine a8 hI 0 al rfl (by simpa using hlc) ?_
 refine Run.call lP mx hI (kG hg hwa hj.1.1 h hkc) fun v' I' S' w'=>?_
 rintro ⟨eS,rfl,cs',rfl,hcs'⟩ _ hI
 rw [eS] at hI
 clear eS
 refine bq hI 0 rfl al (by simpa using hcs'.length) (by simpa using hlc) (by simpa using hcs'.one) fun w' hI=>?_
 have hI:Inv w X ([.blk b1 (.cells cs'.toArray ac),.blk b2 (.cells ds.toArray ac)]++[.blk kb (.cells kc ac)]) S w':=hI
 refine a8 hI 1 al rfl (by simpa using hld) ?_
 refine Run.call lP mx hI (kG hg hwb hj.2.1 h' hkc) fun v' I' S' w'=>?_
 rintro ⟨eS,rfl,ds',rfl,hds'⟩ _ hI
 rw [eS] at hI
 clear eS
 refine bq hI 1 rfl al (by simpa using hds'.length) (by simpa using hld) (by simpa using hds'.one) fun w' hI=>?_
 have hI:Inv w X [.blk b1 (.cells cs'.toArray ac),.blk b2 (.cells ds'.toArray ac),.blk kb (.cells kc ac)] S w':=hI
 have hcs:=hcs'
 have hds:=hds'
 obtain ⟨kv,rfl,_,_,_,hks⟩:=RdT.iff.1 hcs'
 obtain ⟨kv',rfl,_,_,_,hks'⟩:=RdT.iff.1 hds'
 obtain ⟨k,n,s,ks⟩:=a'
 obtain ⟨k',n',s',ks'⟩:=b'
 unfold DR at he
 simp only [T.name,T.kids,T.kind,T.n] at hks hks' hI he hsw ⊢
 have hlen:=hks.le
 simp only [maxLen] at hlen
 refine ⟨fun q w'=>q=.bool (decide (k=1/\k'=1/\n=n'))/\Inv w X [.blk b1 (.cells #[.int .i64 k,.int .i64 n,.string s,kv] ac),.blk b2 (.cells #[.int .i64 k',.int .i64 n',.string s',kv'] ac),.blk kb (.cells kc ac)] S w',?_,?_⟩
 ·refine ah hI 0 rfl aU aR rfl ?_
  refine bu ?_
  by_cases e1:k=1
  ·rw [decide_eq_true e1]
   repeat (first|refine ab ?_|refine ad (by decide) ?_|refine aa ?_|refine af ?_|refine ag ?_)
   refine ah hI 1 rfl aU aR rfl ?_
   refine bu ?_
   by_cases e2:k'=1
   ·rw [decide_eq_true e2]
    repeat (first|refine ab ?_|refine ad (by decide) ?_|refine aa ?_|refine af ?_|refine ag ?_)
    refine ah hI 0 rfl a9 aR rfl ?_
    refine ah hI 1 rfl a9 aR rfl ?_
    refine bu ?_
    repeat (first|refine ab ?_|refine ad (by decide) ?_|refine aa ?_|refine af ?_|refine ag ?_)
    exact ⟨by simp [e1,e2],hI⟩
   ·rw [decide_eq_false e2]
    repeat (first|refine ab ?_|refine ad (by decide) ?_|refine aa ?_|refine af ?_|refine ag ?_)
    exact ⟨by simp [e2],hI⟩
  ·rw [decide_eq_false e1]
   repeat (first|refine ab ?_|refine ad (by decide) ?_|refine aa ?_|refine af ?_|refine ag ?_)
   exact ⟨by simp [e1],hI⟩
 intro q _ _ _ _ _ _ _ _ _ _ _ _ _ _ w'
 rintro ⟨rfl,hI⟩
 refine bf (fun hsame=>?_) (fun hsame=>?_)
 ·have:r=true/\st'=st:=by
   rcases he with ⟨_,_,_,h1,h2⟩|⟨_,h1,_⟩|⟨h1,_,_⟩|⟨h1,_,_⟩
   ·exact ⟨h1,h2⟩
   ·exact absurd hsame.2 h1
   ·exact absurd hsame.1 h1
   ·exact absurd hsame.1 h1
  obtain ⟨rfl,rfl⟩:=this
  exact ⟨_,_,_,rfl,hI.pick [false,false,true],Ext.refl _ _ _,rfl,rfl,_,rfl,hkc⟩
 refine ah hI 0 rfl aU aR rfl ?_
 refine bu ?_
 refine bf (fun hk1=>?_) (fun hk1=>?_)
 ·have hend:(¬ d6 st n.toNat (.mk k' n' s' ks')/\r=true/\st'=st.set n.toNat (some (.mk k' n' s' ks'))) ∨ (d6 st n.toNat (.mk k' n' s' ks')/\r=false/\st'=st):=by
   rcases he with ⟨h1,h2,h3,_⟩|⟨_,_,h1⟩|⟨h1,_,_⟩|⟨h1,_,_⟩
   ·exact absurd ⟨h1,h2,h3⟩ hsame
   ·exact h1
   ·exact absurd hk1 h1
   ·exact absurd hk1 h1
  obtain ⟨hn0,hnN,_⟩:=hoa.1.var hk1
  simp only [T.n] at hn0 hnN
  obtain ⟨j,rfl⟩:∃ j:Nat,n=j:=⟨n.toNat,by omega⟩
  refine ah hI 0 rfl a9 aR rfl ?_
  refine a8 hI 1 al rfl rfl ?_
  refine Run.call (A:=[_,_]) wQ wW hI (v3 hN hg hob.1 hob.2 j (by omega) hds hkc) fun v' I' S' w'=>?_
  rintro ⟨eS,rfl,rfl⟩ _ hI
  rw [eS] at hI
  clear eS
  have hI:Inv w X [.blk b1 (.cells #[.int .i64 k,.int .i64 j,.string s,kv] ac),.blk b2 (.cells #[.int .i64 k',.int .i64 n',.string s',kv'] ac),.blk kb (.cells kc ac)] S w':=hI
  refine bd (fun hb=>?_) (fun hb=>?_)
  ·have hocc:d6 st (Int.toNat j) (.mk k' n' s' ks'):=@of_decide_eq_true _ (Classical.propDecidable _) hb
   have:r=false/\st'=st:=by
    rcases hend with ⟨h1,_⟩|⟨_,h1⟩
    ·exact absurd hocc h1
    ·exact h1
   obtain ⟨rfl,rfl⟩:=this
   exact ⟨_,_,_,rfl,hI.pick [false,false,true],Ext.refl _ _ _,rfl,rfl,_,rfl,hkc⟩
  ·have hocc:¬ d6 st (Int.toNat j) (.mk k' n' s' ks'):=@of_decide_eq_false _ (Classical.propDecidable _) hb
   have:r=true/\st'=st.set (Int.toNat j) (some (.mk k' n' s' ks')):=by
    rcases hend with ⟨_,h1⟩|⟨h1,_⟩
    ·exact h1
    ·exact absurd h1 hocc
   obtain ⟨rfl,rfl⟩:=this
   rw [Int.toNat_natCast]
   refine ah hI 0 rfl a9 aR rfl ?_
   refine a8 hI 1 al rfl rfl ?_
   refine aT aC (by omega) ?_
   rw [Nat.zero_add]
   refine oZ hI 2 rfl al rfl (by have:=hkc.1; exact Nat.ble_eq_true_of_le (by omega)) hds.one fun w' hI=>?_
   exact ⟨_,_,_,rfl,hI.pick [false,false,true],Ext.refl _ _ _,rfl,rfl,_,rfl,hkc.set (by omega) hds⟩
 refine ah hI 1 rfl aU aR rfl ?_
 refine bu ?_
 refine bf (fun hk2=>?_) (fun hk2=>?_)
 ·refine a8 hI 1 al rfl rfl ?_
  refine a8 hI 0 al rfl rfl ?_
  refine Run.call (A:=[_,_]) eX eP hI (hsw hk1 hk2 S _ _ kb kc hds hcs hkc) fun v' I' S' w'=>?_
  rintro ⟨eS,rfl,kc',rfl,hkc'⟩ _ hI
  rw [eS] at hI
  clear eS
  exact ⟨_,_,_,rfl,hI.pick [false,false,true],Ext.refl _ _ _,rfl,rfl,_,rfl,hkc'⟩
 have hend:(gd (.mk k n s ks) (.mk k' n' s' ks')=false/\r=false/\st'=st) ∨ (gd (.mk k n s ks) (.mk k' n' s' ks')=true/\Chain (UC N kp) st ks ks' r st'):=by
  rcases he with ⟨h1,_⟩|⟨h1,_,_⟩|⟨_,h1,_⟩|⟨_,_,h1⟩
  ·exact absurd h1 hk1
  ·exact absurd h1 hk1
  ·exact absurd h1 hk2
  ·exact h1
 refine ⟨fun q w'=>q=.bool (!gd (.mk k n s ks) (.mk k' n' s' ks'))/\Inv w X [.blk b1 (.cells #[.int .i64 k,.int .i64 n,.string s,kv] ac),.blk b2 (.cells #[.int .i64 k',.int .i64 n',.string s',kv'] ac),.blk kb (.cells kc ac)] S w',?_,?_⟩
 ·refine ah hI 0 rfl aU aR rfl ?_
  refine ah hI 1 rfl aU aR rfl ?_
  refine bQ ?_
  by_cases e1:k=k'
  ·rw [decide_eq_true e1]
   repeat (first|refine ab ?_|refine ad (by decide) ?_|refine aa ?_|refine af ?_|refine ag ?_)
   refine ah hI 0 rfl a9 aR rfl ?_
   refine ah hI 1 rfl a9 aR rfl ?_
   refine bQ ?_
   by_cases e2:n=n'
   ·rw [decide_eq_true e2]
    repeat (first|refine ab ?_|refine ad (by decide) ?_|refine aa ?_|refine af ?_|refine ag ?_)
    refine ah hI 0 rfl bi bk rfl ?_
    refine ah hI 1 rfl bi bk rfl ?_
    refine qM ?_
    by_cases e3:s=s'
    ·rw [decide_eq_true e3]
     repeat (first|refine ab ?_|refine ad (by decide) ?_|refine aa ?_|refine af ?_|refine ag ?_)
     refine ah hI 0 rfl aP aO rfl ?_
     refine a5 hks aC ?_
     refine ah hI 1 rfl aP aO rfl ?_
     refine a5 hks' aC ?_
     refine bQ ?_
     repeat (first|refine ab ?_|refine ad (by decide) ?_|refine aa ?_|refine af ?_|refine ag ?_)
     exact ⟨by rw [cQ,decide_eq_true e1,decide_eq_true e2,decide_eq_true e3,z3]; rfl,hI⟩
    ·rw [decide_eq_false e3]
     repeat (first|refine ab ?_|refine ad (by decide) ?_|refine aa ?_|refine af ?_|refine ag ?_)
     exact ⟨by rw [cQ,decide_eq_true e1,decide_eq_true e2,decide_eq_false e3]; rfl,hI⟩
   ·rw [decide_eq_false e2]
    repeat (first|refine ab ?_|refine ad (by decide) ?_|refine aa ?_|refine af ?_|refine ag ?_)
    exact ⟨by rw [cQ,decide_eq_true e1,decide_eq_false e2]; rfl,hI⟩
  ·rw [decide_eq_false e1]
   repeat (first|refine ab ?_|refine ad (by decide) ?_|refine aa ?_|refine af ?_|refine ag ?_)
   exact ⟨by rw [cQ,decide_eq_false e1]; rfl,hI⟩
 intro q _ _ _ _ _ _ _ _ _ _ _ _ _ _ _ _ _ _ _ _ _ _ _ _ _ _ _ w'
 rintro ⟨rfl,hI⟩
 cases hd:gd (.mk k n s ks) (.mk k' n' s' ks')
 ·refine bd (fun _=>?_) (fun hb=>by cases hb)
  have:r=false/\st'=st:=by
   rcases hend with ⟨_,h1⟩|⟨h1,_⟩
   ·exact h1
   ·rw [hd] at h1; cases h1
  obtain ⟨rfl,rfl⟩:=this
  exact ⟨_,_,_,rfl,hI.pick [false,false,true],Ext.refl _ _ _,rfl,rfl,_,rfl,hkc⟩
 refine bd (fun hb=>by cases hb) (fun _=>?_)
 have hle:ks.length=ks'.length:=lV hd
 have hch:Chain (UC N kp) st ks ks' r st':=by
  rcases hend with ⟨h1,_⟩|⟨_,h1⟩
  ·rw [hd] at h1; cases h1
  ·exact h1
 refine ⟨fun i w'=>∃ (j:Nat) (st1:a6) (kc1:Array Value),j<=ks.length/\i=.int .i64 j/\Chain (UC N kp) st1 (ks.drop j) (ks'.drop j) r st'/\KnU S kc1 st1/\Inv w X [.blk b1 (.cells #[.int .i64 k,.int .i64 n,.string s,kv] ac),.blk b2 (.cells #[.int .i64 k',.int .i64 n',.string s',kv'] ac),.blk kb (.cells kc1 ac)] S w',fun i _=>ks.length - (intOf i).toNat,⟨0,st,kc,Nat.zero_le _,rfl,hch,hkc,hI⟩,?_⟩
 intro t7 _ _ _ t96 t95 t94 t93 t92 t91 t90 t89 t88 t87 t86 t85 t84 _ _ _ _ _ w'
 rintro ⟨j,st1,kc1,hj,rfl,hrel,hkc1,hI⟩
 refine ah hI 0 rfl aP aO rfl ?_
 refine a5 hks aC ?_
 refine bz ?_
 refine bf (fun hji=>?_) (fun hji=>?_)
 ·have hj1:j<ks.length:=by omega
  have hj2:j<ks'.length:=by omega
  obtain ⟨c1,o1,cap1,a1,E1,fz1,rfl,hS1,hR1⟩:=hks.at_ hj1
  obtain ⟨c2,o2,cap2,a2,E2,fz2,rfl,hS2,hR2⟩:=hks'.at_ hj2
  rw [List.drop_eq_getElem_cons hj1,List.drop_eq_getElem_cons hj2] at hrel
  obtain ⟨r1,st2,hcall,hno,hyes⟩:=hrel.head
  have hcall:=hcall S _ _ kb kc1 hR1 hR2 hkc1
  refine ⟨fun D dt cR cS cP cT cX cV bM bN bU bV bW bX w_=>(D 0=true->bX=.pointer (some ⟨b1,3,none⟩))/\(D 1=true->bW=.slice (some ⟨c1,o1,none⟩) ks.length cap1)/\(D 2=true->bV=.int .i64 j)/\(D 3=true->bU=.pointer (some ⟨c1,o1+j * 4,none⟩))/\(D 4=true->bN=.agg (ba a1 (o1+j * 4) 4).toArray)/\(D 5=true->bM=.pointer (some ⟨b2,3,none⟩))/\(D 6=true->cV=.slice (some ⟨c2,o2,none⟩) ks'.length cap2)/\(D 7=true->cX=.int .i64 j)/\(D 8=true->cT=.pointer (some ⟨c2,o2+j * 4,none⟩))/\(D 9=true->cP=.agg (ba a2 (o2+j * 4) 4).toArray)/\(D 10=true->cS=kvU kb N kp)/\(D 11=true->cR=.bool r1)/\(D 12=true->dt=.bool (!r1))/\(D 11=false->Inv w X [.blk b1 (.cells #[.int .i64 k,.int .i64 n,.string s,.slice (some ⟨c1,o1,none⟩) ks.length cap1] ac),.blk b2 (.cells #[.int .i64 k',.int .i64 n',.string s',.slice (some ⟨c2,o2,none⟩) ks'.length cap2] ac),.blk kb (.cells kc1 ac)] S w_)/\(D 11=true->∃ kc2,KnU S kc2 st2/\Inv w X [.blk b1 (.cells #[.int .i64 k,.int .i64 n,.string s,.slice (some ⟨c1,o1,none⟩) ks.length cap1] ac),.blk b2 (.cells #[.int .i64 k',.int .i64 n',.string s',.slice (some ⟨c2,o2,none⟩) ks'.length cap2] ac),.blk kb (.cells kc2 ac)] S w_)/\∃ kc3,Inv w X [.blk b1 (.cells #[.int .i64 k,.int .i64 n,.string s,.slice (some ⟨c1,o1,none⟩) ks.length cap1] ac),.blk b2 (.cells #[.int .i64 k',.int .i64 n',.string s',.slice (some ⟨c2,o2,none⟩) ks'.length cap2] ac),.blk kb (.cells kc3 ac)] S w_,⟨ae,ae,ae,ae,ae,ae,ae,ae,ae,ae,ae,ae,ae,⟨fun _=>hI.draw,ae,kc1,hI.draw⟩⟩,⟨?_,?_,?_,?_,?_,?_,?_,?_,?_,?_,?_,?_,?_,trivial⟩,?_⟩
  ·intro D aY  dt cR cS cP cT cX cV bM bN bU bV bW bX w_
   rintro ⟨av,aw,ao,au,az,aq,aA,aE,aH,aL,ai,aj,am,⟨hI0,hI1,kc3,hI⟩⟩
   refine bb aP ?_
   exact ⟨fun _=>rfl,aw,ao,au,az,aq,aA,aE,aH,aL,ai,aj,am,⟨hI0,hI1,kc3,hI⟩⟩
  ·intro D aY cB dt cR cS cP cT cX cV bM bN bU bV bW bX w_
   rintro ⟨av,aw,ao,au,az,aq,aA,aE,aH,aL,ai,aj,am,⟨hI0,hI1,kc3,hI⟩⟩
   obtain rfl:=av cB
   refine bj hI 0 aO rfl rfl ?_
   exact ⟨av,fun _=>rfl,ao,au,az,aq,aA,aE,aH,aL,ai,aj,am,⟨hI0,hI1,kc3,hI⟩⟩
  ·intro D aY  dt cR cS cP cT cX cV bM bN bU bV bW bX w_
   rintro ⟨av,aw,ao,au,az,aq,aA,aE,aH,aL,ai,aj,am,⟨hI0,hI1,kc3,hI⟩⟩
   exact ⟨av,aw,fun _=>rfl,au,az,aq,aA,aE,aH,aL,ai,aj,am,⟨hI0,hI1,kc3,hI⟩⟩
  ·intro D aY c6 d8 dt cR cS cP cT cX cV bM bN bU bV bW bX w_
   rintro ⟨av,aw,ao,au,az,aq,aA,aE,aH,aL,ai,aj,am,⟨hI0,hI1,kc3,hI⟩⟩
   obtain rfl:=aw c6
   obtain rfl:=ao d8
   refine aT aC hj1 ?_
   exact ⟨av,aw,ao,fun _=>rfl,az,aq,aA,aE,aH,aL,ai,aj,am,⟨hI0,hI1,kc3,hI⟩⟩
  ·intro D aY dq dt cR cS cP cT cX cV bM bN bU bV bW bX w_
   rintro ⟨av,aw,ao,au,az,aq,aA,aE,aH,aL,ai,aj,am,⟨hI0,hI1,kc3,hI⟩⟩
   obtain rfl:=au dq
   refine bw al hR1.length (fun j v hj=>by rw [hI.cellS hS1]; exact aS rfl j v hj) ?_
   exact ⟨av,aw,ao,au,fun _=>rfl,aq,aA,aE,aH,aL,ai,aj,am,⟨hI0,hI1,kc3,hI⟩⟩
  ·intro D aY  dt cR cS cP cT cX cV bM bN bU bV bW bX w_
   rintro ⟨av,aw,ao,au,az,aq,aA,aE,aH,aL,ai,aj,am,⟨hI0,hI1,kc3,hI⟩⟩
   refine bb aP ?_
   exact ⟨av,aw,ao,au,az,fun _=>rfl,aA,aE,aH,aL,ai,aj,am,⟨hI0,hI1,kc3,hI⟩⟩
  ·intro D aY cY dt cR cS cP cT cX cV bM bN bU bV bW bX w_
   rintro ⟨av,aw,ao,au,az,aq,aA,aE,aH,aL,ai,aj,am,⟨hI0,hI1,kc3,hI⟩⟩
   obtain rfl:=aq cY
   refine bj hI 1 aO rfl rfl ?_
   exact ⟨av,aw,ao,au,az,aq,fun _=>rfl,aE,aH,aL,ai,aj,am,⟨hI0,hI1,kc3,hI⟩⟩
  ·intro D aY  dt cR cS cP cT cX cV bM bN bU bV bW bX w_
   rintro ⟨av,aw,ao,au,az,aq,aA,aE,aH,aL,ai,aj,am,⟨hI0,hI1,kc3,hI⟩⟩
   exact ⟨av,aw,ao,au,az,aq,aA,fun _=>rfl,aH,aL,ai,aj,am,⟨hI0,hI1,kc3,hI⟩⟩
  ·intro D aY ci gY dt cR cS cP cT cX cV bM bN bU bV bW bX w_
   rintro ⟨av,aw,ao,au,az,aq,aA,aE,aH,aL,ai,aj,am,⟨hI0,hI1,kc3,hI⟩⟩
   obtain rfl:=aA ci
   obtain rfl:=aE gY
   refine aT aC hj2 ?_
   exact ⟨av,aw,ao,au,az,aq,aA,aE,fun _=>rfl,aL,ai,aj,am,⟨hI0,hI1,kc3,hI⟩⟩
  ·intro D aY dN dt cR cS cP cT cX cV bM bN bU bV bW bX w_
   rintro ⟨av,aw,ao,au,az,aq,aA,aE,aH,aL,ai,aj,am,⟨hI0,hI1,kc3,hI⟩⟩
   obtain rfl:=aH dN
   refine bw al hR2.length (fun j v hj=>by rw [hI.cellS hS2]; exact aS rfl j v hj) ?_
   exact ⟨av,aw,ao,au,az,aq,aA,aE,aH,fun _=>rfl,ai,aj,am,⟨hI0,hI1,kc3,hI⟩⟩
  ·intro D aY  dt cR cS cP cT cX cV bM bN bU bV bW bX w_
   rintro ⟨av,aw,ao,au,az,aq,aA,aE,aH,aL,ai,aj,am,⟨hI0,hI1,kc3,hI⟩⟩
   exact ⟨av,aw,ao,au,az,aq,aA,aE,aH,aL,fun _=>rfl,aj,am,⟨hI0,hI1,kc3,hI⟩⟩
  ·intro D aY cZ iJ g7 dt cR cS cP cT cX cV bM bN bU bV bW bX w_
   rintro ⟨av,aw,ao,au,az,aq,aA,aE,aH,aL,ai,aj,am,⟨hI0,hI1,kc3,hI⟩⟩
   obtain rfl:=az cZ
   obtain rfl:=aL iJ
   obtain rfl:=ai g7
   refine Run.call (A:=[_,_]) eX eP (hI0 aY) hcall fun v' I' S' w_=>?_
   rintro ⟨eS,rfl,kc2,rfl,hk2⟩ _ hI
   rw [eS] at hI
   have hI0:=fun (h:aD D 11 11=false)=>(Bool.noConfusion h:Inv w X [.blk b1 (.cells #[.int .i64 k,.int .i64 n,.string s,.slice (some ⟨c1,o1,none⟩) ks.length cap1] ac),.blk b2 (.cells #[.int .i64 k',.int .i64 n',.string s',.slice (some ⟨c2,o2,none⟩) ks'.length cap2] ac),.blk kb (.cells kc1 ac)] S w_)
   have hI1:=fun (_:aD D 11 11=true)=>(⟨kc2,hk2,hI⟩:∃ kc2,KnU S kc2 st2/\Inv w X [.blk b1 (.cells #[.int .i64 k,.int .i64 n,.string s,.slice (some ⟨c1,o1,none⟩) ks.length cap1] ac),.blk b2 (.cells #[.int .i64 k',.int .i64 n',.string s',.slice (some ⟨c2,o2,none⟩) ks'.length cap2] ac),.blk kb (.cells kc2 ac)] S w_)
   obtain ⟨kc3,hI⟩:∃ kc3,Inv w X [.blk b1 (.cells #[.int .i64 k,.int .i64 n,.string s,.slice (some ⟨c1,o1,none⟩) ks.length cap1] ac),.blk b2 (.cells #[.int .i64 k',.int .i64 n',.string s',.slice (some ⟨c2,o2,none⟩) ks'.length cap2] ac),.blk kb (.cells kc3 ac)] S w_:=⟨kc2,hI⟩
   exact ⟨av,aw,ao,au,az,aq,aA,aE,aH,aL,ai,fun _=>rfl,am,⟨hI0,hI1,kc3,hI⟩⟩
  ·intro D aY e7 dt cR cS cP cT cX cV bM bN bU bV bW bX w_
   rintro ⟨av,aw,ao,au,az,aq,aA,aE,aH,aL,ai,aj,am,⟨hI0,hI1,kc3,hI⟩⟩
   obtain rfl:=aj e7
   refine bJ ?_
   exact ⟨av,aw,ao,au,az,aq,aA,aE,aH,aL,ai,aj,fun _=>rfl,⟨hI0,hI1,kc3,hI⟩⟩
  intro D fN dO d7 hY gh fB fk fi e9 fe eQ eZ e8 dt cR cS cP cT cX cV bM bN bU bV bW bX w_
  rintro ⟨av,aw,ao,au,az,aq,aA,aE,aH,aL,ai,aj,am,⟨hI0,hI1,kc3,hI⟩⟩
  obtain rfl:=am fN
  obtain rfl:=aj dO
  obtain rfl:=ai d7
  obtain rfl:=aL hY
  obtain rfl:=aH gh
  obtain rfl:=aE fB
  obtain rfl:=aA fk
  obtain rfl:=aq fi
  obtain rfl:=az e9
  obtain rfl:=au fe
  obtain rfl:=ao eQ
  obtain rfl:=aw eZ
  obtain rfl:=av e8
  clear av aw ao au az aq aA aE aH aL ai aj am
  obtain ⟨kc2,hk2,hI⟩:=hI1 dO
  clear hI0 hI1
  refine bd (fun hne=>?_) (fun he'=>?_)
  ·simp only [Bool.not_eq_true'] at hne
   obtain ⟨rfl,rfl⟩:=hno hne
   exact ⟨_,_,_,rfl,hI.pick [false,false,true],Ext.refl _ _ _,rfl,rfl,_,rfl,hk2⟩
  ·simp only [Bool.not_eq_false'] at he'
   refine b0 (by omega) ?_
   exact ⟨⟨j+1,st2,kc2,hj1,rfl,hyes he',hk2,hI⟩,by simp [intOf]; omega⟩
 ·have:j=ks.length:=by omega
  subst this
  rw [List.drop_length,hle,List.drop_length] at hrel
  obtain ⟨rfl,rfl⟩:=hrel.done
  exact ⟨_,_,_,rfl,hI.pick [false,false,true],Ext.refl _ _ _,rfl,rfl,_,rfl,hkc1⟩
theorem gE {N kp:Nat} (hN:N<=1000000) {st st':a6} {a b:T} {r:Bool} (hg:Good N st) (hj:okJ N (.one a b)) (hu:Uni st (.one a b) r st'):UC N kp st a b r st':=by
 refine Uni.calls (N:=N) (Call:=UC N kp) (fun st a b a' b' r st' hg hj hwa hwb he=>?_) hu hg hj
 refine pa hN hg hj hwa hwb (fun h1 h2=>?_) he
 have hoa:=dp hg hwa hj.1
 have hob:=dp hg hwb hj.2
 have hend:(¬ d6 st b'.n.toNat a'/\r=true/\st'=st.set b'.n.toNat (some a')) ∨ (d6 st b'.n.toNat a'/\r=false/\st'=st):=by
  rcases he with ⟨h3,_⟩|⟨h3,_,_⟩|⟨_,_,h3⟩|⟨_,h3,_⟩
  ·exact absurd h3 h1
  ·exact absurd h3 h1
  ·exact h3
  ·exact absurd h2 h3
 refine pa hN hg ⟨hob,hoa⟩ (.stop (gj hwb)) (.stop (gj hwa)) (fun h3 _=>absurd h2 h3) (.inr (.inl ⟨h2,fun h3=>h1 h3.1,hend⟩))
end

end Go.Proofs.YtfcbhfjomgopbaaGreat

/- spec.l4Copy, spec.l14Copy: clauses and programs copied. -/
namespace Go.Proofs.YtfcbhfjomgopbaaGreat
open Go Go.RowKit
section
attribute [local irreducible] Run CondV ak bg
end

end Go.Proofs.YtfcbhfjomgopbaaGreat

/- append of a whole slice that is only read to a row of the function's own. -/
namespace Go.Proofs.YtfcbhfjomgopbaaGreat
open Go Go.RowKit
section
variable {P:Program} {w w0:World} {X:List Nat} {L:List Item} {S:ar} {K:Value->World->Prop}
theorem C0 (h:Inv w0 X L S w) {T ty e:TypeId} {k by_ n cp:Nat} {z v:Value} {cs:List Bool} {xs:List Value} {a:Option Addr} (i:Nat)
  (hT:ou P T=some (e,k,by_,z)) (hi:L[i]?=some (.row v e k n xs)) (hk:K v w) :
  Run P (aM .append #[T,T] ty cs [v,.slice a 0 cp]) w K:=by
 obtain ⟨hu,inf,hi',hz,hs,hb,hzs⟩:=il hT
 have hown:=h.its _ (List.mem_of_getElem? hi)
 simp only [Item.holds] at hown
 refine Run.of (v:=v) (w':=w) ?_ hk
 rcases hown.2 with ⟨rfl,rfl⟩|⟨g,cap,cur,rfl,_,hg,hnc,hcm,hcs,ht⟩
 ·cases a <;> simp [aM,builtin,Builtin.append_,run_underlying hu,sizeOf,typeInfo,hi',Builtin.lenOf,Builtin.firstCells,loadCells,loadCellsFrom]
 ·cases a <;> simp [aM,builtin,Builtin.append_,run_underlying hu,sizeOf,typeInfo,hi',storeCells,hnc,Builtin.lenOf,Builtin.firstCells,loadCells,loadCellsFrom]
end

end Go.Proofs.YtfcbhfjomgopbaaGreat

/- Rows of clauses that are only read: grown, joined, copied. -/
namespace Go.Proofs.YtfcbhfjomgopbaaGreat
open Go Go.RowKit

structure Rows {α:Type} (k:Nat) (R:List Value->α->Prop) (css:List (List Value)) (ys:List α):Prop where
 hc:css.length=ys.length
 hk:∀ cs∈css,cs.length=k
 hR:∀ i (h:i<ys.length) (h1:i<css.length),R css[i] ys[i]
theorem Rows.nil {α:Type} (k:Nat) (R:List Value->α->Prop):Rows k R [] ([]:List α):=⟨rfl,by simp,fun i h=>by simp at h⟩
theorem Rows.snoc {α:Type} {k:Nat} {R:List Value->α->Prop} {css:List (List Value)} {ys:List α} (h:Rows k R css ys) {cs:List Value} {y:α} (hR:R cs y) (hl:cs.length=k):Rows k R (css++[cs]) (ys++[y]):=by
 refine ⟨by simp [h.hc],fun c hc=>?_,fun i h0 h2=>?_⟩
 ·rcases List.mem_append.1 hc with hc|hc
  ·exact h.hk c hc
  ·simp at hc; subst hc; exact hl
 ·have e2:=h.hc
  by_cases hi:i<ys.length
  ·rw [List.getElem_append_left (by omega),List.getElem_append_left hi]
   exact h.hR i hi (by omega)
  ·have:i=ys.length:=by simp at h0; omega
   subst this
   rw [List.getElem_append_right (by omega),List.getElem_append_right (by omega)]
   simp only [e2,Nat.sub_self,List.getElem_cons_zero]
   exact hR
theorem Rows.append {α:Type} {k:Nat} {R:List Value->α->Prop} {css css':List (List Value)} {ys ys':List α} (h:Rows k R css ys) (h':Rows k R css' ys'):Rows k R (css++css') (ys++ys'):=by
 have e:=h.hc
 have e':=h'.hc
 refine ⟨by simp [e,e'],fun c hc=>?_,fun i h0 h2=>?_⟩
 ·rcases List.mem_append.1 hc with hc|hc
  ·exact h.hk c hc
  ·exact h'.hk c hc
 ·by_cases hi:i<ys.length
  ·rw [List.getElem_append_left (by omega),List.getElem_append_left hi]
   exact h.hR i hi (by omega)
  ·have hi':i - css.length<ys'.length:=by simp at h0; omega
   rw [List.getElem_append_right (by omega),List.getElem_append_right (by omega)]
   have:=h'.hR (i - css.length) hi' (by omega)
   simpa only [e] using this
theorem RowRd.rows {α:Type} {S:ar} {v:Value} {e:TypeId} {k:Nat} {R:List Value->α->Prop} {css:List (List Value)} {ys:List α} (hr:Rows k R css ys) (h:RowRd S v e k css.length css.flatten):RdSl S k R v ys:=by
 obtain ⟨hl,h⟩:=h
 have hcy:=hr.hc
 rcases h with ⟨rfl,h0⟩|⟨g,cap,cur,rfl,hS,hnc,hcm,hcs,ht⟩
 ·have:ys=[]:=List.eq_nil_of_length_eq_zero (by omega)
  subst this
  exact ⟨none,0,rfl,Nat.le_refl _,Nat.zero_le _,.inl rfl⟩
 ·refine ⟨_,cap,by rw [hcy],by omega,hcm,.inr ⟨g,0,cur,e,(0,0),rfl,hS,fun i hi=>?_⟩⟩
  have:=kQ k css i hr.hk (by omega)
  have hik:i * k+k<=css.length * k:=by rw [<- Nat.succ_mul]; exact Nat.mul_le_mul_right k (by omega)
  rw [<- ht,List.drop_take,List.take_take,Nat.min_eq_left (by omega)] at this
  rw [ba,Nat.zero_add,this]
  exact hr.hR i hi (by omega)
theorem sB {k:Nat}:∀ {css:List (List Value)},(∀ cs∈css,cs.length=k)->css.flatten.length=css.length * k
 | [],_=>by simp
 | c::css,h=>by
  have:=sB (css:=css) fun cs hc=>h cs (List.mem_cons_of_mem _ hc)
  rw [List.flatten_cons,List.length_append,h c (List.mem_cons_self ..),this,List.length_cons,Nat.succ_mul,Nat.add_comm]
section
variable {P:Program} {w w0:World} {X:List Nat} {L:List Item} {S:ar} {K:Value->World->Prop}
attribute [local irreducible] Run CondV ak bg
/- append(row, other row...) -/
end
end Go.Proofs.YtfcbhfjomgopbaaGreat

/- Reslicing; a read slice joined to a row. -/
namespace Go.Proofs.YtfcbhfjomgopbaaGreat
open Go Go.RowKit

theorem oH {P:Program} {T e:TypeId} {k:Nat} (h:cG P T=some (e,k)):P.underlying T=some (.slice e)/\∃ i,P.info? e=some i/\i.size=k:=by
 unfold cG at h
 split at h
 ·rename_i e1 he
  rw [Option.map_eq_some_iff] at h
  obtain ⟨i,hi,hx⟩:=h
  simp only [Prod.mk.injEq] at hx
  obtain ⟨rfl,rfl⟩:=hx
  exact ⟨he,i,hi,rfl⟩
 ·cases h
section
variable {P:Program} {w:World} {K:Value->World->Prop}
attribute [local irreducible] Run
theorem yn {n y:Nat} {code:BoundsCode} (h:n<=y):(Instr.sliceBound (.int .i64 n) y code).run P w=.ok n w:=by
 have h1:(0:Int)<=(n:Int)/\(n:Int)<=(y:Int):=by omega
 simp [Instr.sliceBound,asIntOf,h]
theorem DE {T ty e:TypeId} {k h len cap:Nat} {a:Option Addr} (hT:cG P T=some (e,k)) (hh:h<=cap) (hk:K (.slice (if cap=0 then a else a.map (·.add (0 * k))) h cap) w) :
  Run P (sOp (.slice T (.const (.slice a len cap)) none (some (.const (.int .i64 h))) none) ty) w K:=by
 obtain ⟨hu,i,hi,_⟩:=oH hT
 refine Run.of ?_ hk
 simp [sOp,execOp,ev0,evE,Instr.sliceAt,Instr.slice,Instr.sliceBounds,run_underlying hu,yn hh,sizeOf,typeInfo,hi]
theorem DH {T ty e:TypeId} {k l len cap:Nat} {a:Option Addr} (hT:cG P T=some (e,k)) (hl:l<=len) (hk:K (.slice (if cap=l then a else a.map (·.add (l * k))) (len - l) (cap - l)) w) :
  Run P (sOp (.slice T (.const (.slice a len cap)) (some (.const (.int .i64 l))) none none) ty) w K:=by
 obtain ⟨hu,i,hi,hs⟩:=oH hT
 refine Run.of ?_ hk
 simp [sOp,execOp,ev0,evE,Instr.sliceAt,Instr.slice,Instr.sliceBounds,run_underlying hu,yn hl,sizeOf,typeInfo,hi,hs]
end
theorem RdSl.to {α:Type} {S:ar} {k:Nat} {R:List Value->α->Prop} {a:Option Addr} {cap n h:Nat} {xs:List α} (hx:RdSl S k R (.slice a n cap) xs) (hh:h<=xs.length) :
  RdSl S k R (.slice (if cap=0 then a else a.map (·.add (0 * k))) h cap) (xs.take h):=by
 obtain ⟨a',cap',e,hl,hc,hx⟩:=hx
 simp only [Value.slice.injEq] at e
 obtain ⟨rfl,rfl,rfl⟩:=e
 have e1:(if cap=0 then a else a.map (·.add (0 * k)))=a:=by
  split
  ·rfl
  ·cases a <;> simp [Addr.add]
 rw [e1]
 have e2:h=(xs.take h).length:=by rw [List.length_take]; omega
 refine ⟨a,cap,by rw [<- e2],by omega,hc,?_⟩
 rcases hx with rfl|⟨b,o,c,E,fz,rfl,hS,hR⟩
 ·left; simp
 ·right
  refine ⟨b,o,c,E,fz,rfl,hS,fun i hi=>?_⟩
  rw [List.getElem_take]
  exact hR i (by omega)
theorem RdSl.from {α:Type} {S:ar} {k:Nat} {R:List Value->α->Prop} {a:Option Addr} {cap n l:Nat} {xs:List α} (hx:RdSl S k R (.slice a n cap) xs) (hl:l<=xs.length) :
  RdSl S k R (.slice (if cap=l then a else a.map (·.add (l * k))) (n - l) (cap - l)) (xs.drop l):=by
 obtain ⟨a',cap',e,hlc,hc,hx⟩:=hx
 simp only [Value.slice.injEq] at e
 obtain ⟨rfl,rfl,rfl⟩:=e
 refine ⟨_,cap - l,by rw [List.length_drop],by rw [List.length_drop]; omega,by omega,?_⟩
 by_cases hd:xs.drop l=[]
 ·exact .inl hd
 ·rcases hx with rfl|⟨b,o,c,E,fz,rfl,hS,hR⟩
  ·simp at hd
  ·right
   have hlt:l<xs.length:=by
    rcases Nat.lt_or_ge l xs.length with h|h
    ·exact h
    ·exact absurd (List.drop_eq_nil_of_le h) hd
   refine ⟨b,o+l * k,c,E,fz,?_,hS,fun i hi=>?_⟩
   ·rw [if_neg (by omega)]
    simp [Addr.add]
   ·rw [List.getElem_drop]
    have:=hR (l+i) (by simp at hi; omega)
    rwa [Nat.add_mul,<- Nat.add_assoc] at this
section
variable {P:Program} {w w0:World} {X:List Nat} {L:List Item} {S:ar} {K:Value->World->Prop}
attribute [local irreducible] Run CondV ak bg
theorem AH {α:Type} {R:List Value->α->Prop} {xs:List α} {v:Value} {T ty e:TypeId} {k l:Nat} (hT:cG P T=some (e,k)) (hx:RdSl S k R v xs) (hl:l<=xs.length)
  (hk:∀ v',RdSl S k R v' (xs.drop l)->K v' w):Run P (sOp (.slice T (.const v) (some (.const (.int .i64 l))) none none) ty) w K:=by
 obtain ⟨a,cap,rfl,hl',hc,hx'⟩:=id hx
 exact DH hT hl (hk _ (hx.from hl))
end
theorem RdSl.exact {α:Type} {S:ar} {k:Nat} {R:List Value->α->Prop} {v:Value} {ys:List α} (h:RdSl S k R v ys) (hk:∀ cs y,R cs y->cs.length=k) :
  ∃ ds:List {cs:List Value // cs.length=k},RdSl S k (fun cs d=>cs=d.val) v ds/\Rows k R (ds.map (·.val)) ys:=by
 obtain ⟨a,cap,rfl,hl,hc,hx⟩:=h
 rcases hx with rfl|⟨b,o,c,E,fz,rfl,hS,hR⟩
 ·exact ⟨[],⟨a,cap,rfl,hl,hc,.inl rfl⟩,Rows.nil _ _⟩
 ·refine ⟨List.ofFn fun i:Fin ys.length=>⟨ba c (o+i.val * k) k,hk _ _ (hR i.val i.isLt)⟩,⟨_,cap,by rw [List.length_ofFn],by rw [List.length_ofFn]; exact hl,hc,.inr ⟨b,o,c,E,fz,rfl,hS,fun i hi=>by simp⟩⟩,⟨by simp,fun cs hcs=>?_,fun i h1 h2=>?_⟩⟩
  ·obtain ⟨d,_,rfl⟩:=List.mem_map.1 hcs
   exact d.property
  ·simp only [List.getElem_map,List.getElem_ofFn]
   exact hR i h1
section
variable {P:Program} {w w0:World} {X:List Nat} {L:List Item} {S:ar} {K:Value->World->Prop}
attribute [local irreducible] Run CondV ak bg
theorem Ca {α:Type} {R:List Value->α->Prop} (h:Inv w0 X L S w) {T ty e:TypeId} {k by_:Nat} {z v u:Value} {cs:List Bool} {css:List (List Value)} {ys:List α} (i:Nat)
  (hT:ou P T=some (e,k,by_,z)) (hk0:0<k) (hi:L[i]?=some (dL v e k css)) (hr:RdSl S k R u ys) (hlen:∀ cs y,R cs y->cs.length=k) (h1:∀ cs y,R cs y->∀ c∈cs,c.oneCell'=true)
  (hfit:css.length+ys.length<=4294967296) (hby:by_<=32768) (hk:∀ v' w' css2,Rows k R css2 ys->Inv w0 X (L.set i (dL v' e k (css++css2))) S w'->K v' w') :
  Run P (aM .append #[T,T] ty cs [v,u]) w K:=by
 obtain ⟨ds,hd,hR⟩:=hr.exact hlen
 have hdl:ds.length=ys.length:=by have:=hR.hc; simpa using this
 have hone:∀ d∈ds,∀ c∈d.val,c.oneCell'=true:=by
  intro d hd' c hc
  obtain ⟨j,hj,rfl⟩:=List.mem_iff_getElem.1 hd'
  have:=hR.hR j (by omega) (by simpa using hj)
  simp only [List.getElem_map] at this
  exact h1 _ _ this c hc
 obtain ⟨a,cap,rfl,hl',hc',hx⟩:=id hd
 have e1:∀ v',Item.row v' e k (css.length+ds.length) (css.flatten++(ds.map (·.val)).flatten)=dL v' e k (css++ds.map (·.val)):=fun v'=>by simp [dL]
 rcases hx with rfl|⟨b,o,c,E,fz,rfl,hS,hel⟩
 ·refine C0 h i hT hi (hk v w [] (by simpa using hR) ?_)
  have:L.set i (dL v e k (css++[]))=L:=by
   obtain ⟨hlt,e'⟩:=List.getElem?_eq_some_iff.1 hi
   rw [List.append_nil,<- e',List.set_getElem_self]
  rw [this]
  exact h
 ·have hfl:(ds.map (·.val)).flatten.length=ds.length * k:=by
   rw [sB (k:=k) (fun cs hcs=>by obtain ⟨d,_,rfl⟩:=List.mem_map.1 hcs; exact d.property),List.length_map]
  refine oD h i (ds.map (·.val)).flatten hT hk0 hi hfl ?_ ?_ (by omega) hby fun v' w' hI=>hk _ _ _ hR ?_
  ·intro j u hj
   have hj':j<ds.length * k:=by
    rw [<- hfl]
    exact (List.getElem?_eq_some_iff.1 hj).1
   have hq:j / k<ds.length:=(Nat.div_lt_iff_lt_mul hk0).2 hj'
   have hcell:=hel (j / k) hq
   have hflat:=kQ k (ds.map (·.val)) (j / k) (fun cs hcs=>by obtain ⟨d,_,rfl⟩:=List.mem_map.1 hcs; exact d.property) (by simpa using hq)
   have hdm:=Nat.div_add_mod j k
   rw [Nat.mul_comm] at hdm
   rw [h.cellS hS]
   have e2:(ds.map (·.val)).flatten[j]?=(ds[j / k].val)[j % k]?:=by
    rw [List.getElem_map] at hflat
    rw [<- hflat,List.getElem?_take,if_pos (Nat.mod_lt _ hk0),List.getElem?_drop]
    congr 1
    omega
   rw [e2] at hj
   have:=aS hcell (j % k) u hj
   rw [<- this]
   congr 1
   omega
  ·intro u hu
   obtain ⟨cs,hcs,hu⟩:=List.mem_flatten.1 hu
   obtain ⟨d,hd',rfl⟩:=List.mem_map.1 hcs
   exact hone d hd' u hu
  ·rw [<- e1]
   exact hI
end

end Go.Proofs.YtfcbhfjomgopbaaGreat

/- Publishing what a call owns; what is published since. -/
namespace Go.Proofs.YtfcbhfjomgopbaaGreat
open Go Go.RowKit
/- a tree of one's own, published -/
theorem Inv.pubExt {w0 w:World} {X:List Nat} {A:List Item} {S:ar} {L:bo} (h:Inv w0 X (A++dP L) S w) :
  ∃ S',Inv w0 X A S' w/\Ext w0.heap.size X S S'/\Ins S' L:=by
 obtain ⟨S',h1,h2,h3,h4⟩:=h.publishAll L
 refine ⟨S',h1,⟨h2,fun b o hb=>?_⟩,h3⟩
 rcases h4 b o hb with h5|h5
 ·exact .inl h5
 ·right
  exact h.new b (by rw [bL]; exact List.mem_append_right _ h5)
theorem Inv.pub1 {w0 w:World} {X:List Nat} {A:List Item} {S:ar} {b:Nat} {o:Obj} (h:Inv w0 X (A++[.blk b o]) S w) :
  ∃ S',Inv w0 X A S' w/\Ext w0.heap.size X S S'/\S' b=some o:=by
 obtain ⟨S',h1,h2,h3⟩:=Inv.pubExt (A:=A) (L:=[(b,o)]) h
 exact ⟨S',h1,h2,h3 _ (List.mem_singleton.2 rfl)⟩
theorem Rows.monoR {α:Type} {k:Nat} {R R':List Value->α->Prop} {css:List (List Value)} {ys:List α} (h:Rows k R css ys) (hR:∀ cs y,R cs y->R' cs y):Rows k R' css ys:=⟨h.hc,h.hk,fun i h1 h2=>hR _ _ (h.hR i h1 h2)⟩
theorem Rows.one {α:Type} {k:Nat} {R:List Value->α->Prop} {cs:List Value} {y:α} (hR:R cs y) (hl:cs.length=k):Rows k R [cs] [y]:=by
 have:=(Rows.nil k R).snoc hR hl
 exact this
section
variable {P:Program} {w w0:World} {X:List Nat} {L:List Item} {S:ar} {K:Value->World->Prop}
theorem Run.call0E {f:FuncId} {fn:Func} {args:List Value} {Post:Value->List Item->ar->Prop}
  (hf:P.funcs[f]?=some fn) (hn:(fn.name == "runtime.NumGoroutine" || fn.body.isNone)=false) (h:Inv w0 X L S w) (hc:Tri P f args [] S Post)
  (hk:∀ v I' S' w',Post v I' S'->Ext w0.heap.size X S S'->Inv w0 X (L++I') S' w'->K v w'):Run P (aN (.func (.func f) #[] #[]) args) w K:=by
 refine Run.callP hf hn ((hc w h.nil.begin).mono ?_)
 rintro e w' ⟨v,I',S',rfl,hI,hE,hP⟩
 refine hk v I' S' w' hP ⟨hE.1,fun b o hb=>?_⟩ (Inv.step (A:=L) (B:=[]) (by simpa using h) hI hE.2)
 rcases hE.2 b o hb with h1|h1|h1
 ·exact .inl h1
 ·simp [bv] at h1
 ·exact .inr (.inr (Nat.le_trans h.size h1))
end
theorem Ext.trans {n:Nat} {Y:List Nat} {S S' S'':ar} (h:Ext n Y S S') (h':Ext n Y S' S''):Ext n Y S S'':=by
 refine ⟨h.1.trans h'.1,fun b o hb=>?_⟩
 rcases h'.2 b o hb with h1|h1
 ·exact h.2 b o h1
 ·exact .inr h1
section
variable {P:Program} {w w0:World} {X:List Nat} {A I:List Item} {S:ar} {K:Value->World->Prop}
theorem DW {f:FuncId} {args:List Value} {Post:Value->List Item->ar->Prop} (h:Inv w0 X (A++I) S w) (hc:Tri P f args I S Post) :
  Calls P f args.toArray w fun e w'=>∃ v I' S',e=.returned v/\Inv w0 X (A++I') S' w'/\Ext w0.heap.size X S S'/\Post v I' S':=by
 refine (hc w (h.sub (List.sublist_append_right A I)).begin).mono ?_
 rintro e w' ⟨v,I',S',rfl,hI,hE,hP⟩
 refine ⟨v,I',S',rfl,Inv.step h hI hE.2,⟨hE.1,fun b o hb=>?_⟩,hP⟩
 rcases hE.2 b o hb with h1|h1|h1
 ·exact .inl h1
 ·exact .inr (h.new b (by rw [bL]; exact List.mem_append_right _ h1))
 ·exact .inr (.inr (Nat.le_trans h.size h1))
theorem Run.callE {f:FuncId} {fn:Func} {args:List Value} {Post:Value->List Item->ar->Prop}
  (hf:P.funcs[f]?=some fn) (hn:(fn.name == "runtime.NumGoroutine" || fn.body.isNone)=false) (h:Inv w0 X (A++I) S w) (hc:Tri P f args I S Post)
  (hk:∀ v I' S' w',Post v I' S'->Ext w0.heap.size X S S'->Inv w0 X (A++I') S' w'->K v w'):Run P (aN (.func (.func f) #[] #[]) args) w K:=by
 refine Run.callP hf hn ((DW h hc).mono ?_)
 rintro e w' ⟨v,I',S',rfl,hI,hE,hP⟩
 exact hk v I' S' w' hP hE hI
theorem Run.callVE {f:FuncId} {fn:Func} {cap args:List Value} {Post:Value->List Item->ar->Prop}
  (hf:P.funcs[f]?=some fn) (hn:(fn.name == "runtime.NumGoroutine" || fn.body.isNone)=false) (h:Inv w0 X (A++I) S w) (hc:Tri P f (args++cap) I S Post)
  (hk:∀ v I' S' w',Post v I' S'->Ext w0.heap.size X S S'->Inv w0 X (A++I') S' w'->K v w'):Run P (aN (fv f cap) args) w K:=by
 unfold Run
 rw [xV hf hn]
 refine (DW h hc).mono ?_
 rintro e w' ⟨v,I',S',rfl,hI,hE,hP⟩
 exact hk v I' S' w' hP hE hI
end
theorem Inv.lendExt {w0 w:World} {X:List Nat} {A:List Item} {S:ar} {v:Value} {e:TypeId} {k:Nat} {css:List (List Value)} (h:Inv w0 X (A++[dL v e k css]) S w) :
  ∃ S',Ext w0.heap.size X S S'/\RowRd S' v e k css.length css.flatten/\Inv w0 X A S' w:=by
 obtain ⟨hl,ho⟩:=h.openRow
 rcases ho with ⟨rfl,h0⟩|⟨g,cap,cur,rfl,hnc,hcm,hcs,ht,hI⟩
 ·exact ⟨S,Ext.refl _ _ _,⟨hl,.inl ⟨rfl,h0⟩⟩,h.sub (List.sublist_append_left _ _)⟩
 ·obtain ⟨S',h1,h2,h3⟩:=Inv.pub1 (A:=A) hI
  exact ⟨S',h2,⟨hl,.inr ⟨g,cap,cur,rfl,h3,hnc,hcm,hcs,ht⟩⟩,h1⟩

end Go.Proofs.YtfcbhfjomgopbaaGreat

/- slices.Delete on a tree of the function's own. -/
namespace Go.Proofs.YtfcbhfjomgopbaaGreat
open Go Go.RowKit
section
variable {P:Program} {w w0:World} {X:List Nat} {L:List Item} {S:ar} {K:Value->World->Prop}
attribute [local irreducible] Run CondV ak bg
/- append within the room of a block -/
end
end Go.Proofs.YtfcbhfjomgopbaaGreat

/- DropClause: both sides. -/
namespace Go.Proofs.YtfcbhfjomgopbaaGreat
open Go Go.RowKit
attribute [local irreducible] Run CondV ak bg

end Go.Proofs.YtfcbhfjomgopbaaGreat

/- DropClause: both sides. -/
namespace Go.Proofs.YtfcbhfjomgopbaaGreat
open Go Go.RowKit
attribute [local irreducible] Run CondV ak bg

end Go.Proofs.YtfcbhfjomgopbaaGreat

/- spec.RenumberClause. -/
namespace Go.Proofs.YtfcbhfjomgopbaaGreat
open Go Go.RowKit
section
attribute [local irreducible] Run CondV ak bg
end

end Go.Proofs.YtfcbhfjomgopbaaGreat

/- spec.RenumberClause: lists and clauses. -/
namespace Go.Proofs.YtfcbhfjomgopbaaGreat
open Go Go.RowKit
section
variable {w:World} {K:Value->World->Prop}
attribute [local irreducible] Run
end
section
attribute [local irreducible] Run CondV ak bg
theorem RdC.zero (S:ar):RdC S [.int .i64 0,.int .i64 0,.string ⟨#[]⟩,.slice none 0 0,.slice none 0 0] ⟨⟨0,0,⟨#[]⟩,[]⟩,[]⟩:=
 ⟨[.int .i64 0,.int .i64 0,.string ⟨#[]⟩,.slice none 0 0],.slice none 0 0,rfl,RdT.iff.2 ⟨_,rfl,by simp [inI,T.kind],by simp [inI,T.n],by rw [T.name]; decide +kernel,⟨none,0,rfl,Nat.le_refl _,Nat.zero_le _,.inl rfl⟩⟩,⟨none,0,rfl,Nat.le_refl _,Nat.zero_le _,.inl rfl⟩⟩
end

end Go.Proofs.YtfcbhfjomgopbaaGreat
