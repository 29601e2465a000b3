/- The laws' marks, written into clauses of the function's own. -/
import Derived.Test.YtemmhhdnlbmicaaGreatZMe1
import Derived.Laws.StructEq
import Derived.Laws.Tables
namespace Go.Proofs.YtemmhhdnlbmicaaGreat
open Go Go.RowKit

section
attribute [local irreducible] Run CondV ah be
theorem TrC.parts {L:bE} {cs:List Value} {c:C} (h:TrC L cs c):∃ kv ks L1 L2,cs=[.int .i64 c.head.kind,.int .i64 c.head.n,.string c.head.name,kv,ks]/\L=L1++L2/\TrSl 4 TrT L1 kv c.head.kids/\TrSl 4 TrT L2 ks c.body:=by
 obtain ⟨hd,ks,L1,L2,rfl,rfl,h1,h2⟩:=h
 obtain ⟨kv,rfl,_,_,_,hkT⟩:=TrT.iff.1 h1
 exact ⟨kv,ks,L1,L2,rfl,rfl,hkT,h2⟩
end

end Go.Proofs.YtemmhhdnlbmicaaGreat

/- The laws' marks, read again. -/
namespace Go.Proofs.YtemmhhdnlbmicaaGreat
open Go Go.RowKit

section
attribute [local irreducible] Run CondV ah be
end

end Go.Proofs.YtemmhhdnlbmicaaGreat

/- Names of goals with their numbers of arguments: built, compared; the clauses for one. -/
namespace Go.Proofs.YtemmhhdnlbmicaaGreat
open Go Go.RowKit

section
variable {w:World} {K:Value->World->Prop}
attribute [local irreducible] Run
end

attribute [local irreducible] Run CondV ah be
structure Pd where
 name:ByteArray
 arity:Int
deriving DecidableEq
def Pd.cells (x:Pd):List Value:=[.string x.name,.int .i64 x.arity]
end Go.Proofs.YtemmhhdnlbmicaaGreat

/- The clauses for a goal; which clauses can be unfolded: both sides. -/
namespace Go.Proofs.YtemmhhdnlbmicaaGreat
open Go Go.RowKit
attribute [local irreducible] Run CondV ah be

end Go.Proofs.YtemmhhdnlbmicaaGreat

/- Lists of predicates: asked and grown, on both sides. -/
namespace Go.Proofs.YtemmhhdnlbmicaaGreat
open Go Go.RowKit
attribute [local irreducible] Run CondV ah be

end Go.Proofs.YtemmhhdnlbmicaaGreat

/- Marks in rows of predicates; trees lent and taken back. -/
namespace Go.Proofs.YtemmhhdnlbmicaaGreat
open Go Go.RowKit

/- a tree of the function's own, handed to readers, and taken back -/
theorem Inv.lendAll {w0 w:World} {X:List Nat} {A:List Item} (M:bE) {S:aF} (h:Inv w0 X (A++bO M) S w) :
  ∃ S',Sle S S'/\Ins S' M/\Inv w0 X A S' w/\∀ B w',Inv w0 X B S' w'->Inv w0 X (B++bO M) S w':=by
 obtain ⟨S',h1,h2,h3,h4⟩:=Inv.publishAll M h
 have hnd:=h.nd
 rw [cD,List.nodup_append] at hnd
 refine ⟨S',h2,h3,h1,fun B w' hB=>⟨hB.size,hB.os,hB.tape,hB.output,hB.old,fun it hit=>?_,?_,fun b hb=>?_,fun b o hb=>⟨(hB.pub b o (h2 b o hb)).1,fun hb'=>?_⟩⟩⟩
 ·rcases List.mem_append.1 hit with hit|hit
  ·exact hB.its it hit
  ·obtain ⟨p,hp,rfl⟩:=List.mem_map.1 hit
   exact (hB.pub _ _ (h3 p hp)).1
 ·rw [cD,List.nodup_append]
  refine ⟨hB.nd,hnd.2.1,fun a ha b hb e=>?_⟩
  subst e
  obtain ⟨p,hp,rfl⟩:=ip.1 hb
  exact (hB.pub _ _ (h3 p hp)).2 ha
 ·rw [cD] at hb
  rcases List.mem_append.1 hb with hb|hb
  ·exact hB.new b hb
  ·exact h.new b (by rw [cD]; exact List.mem_append_right _ hb)
 ·rw [cD] at hb'
  rcases List.mem_append.1 hb' with hb'|hb'
  ·exact (hB.pub b o (h2 b o hb)).2 hb'
  ·exact (h.pub b o hb).2 (by rw [cD]; exact List.mem_append_right _ hb')
/- a row seen as its block -/
theorem Inv.openRow {w0 w:World} {X:List Nat} {A:List Item} {S:aF} {v:Value} {e:TypeId} {k n:Nat} {xs:List Value} (h:Inv w0 X (A++[.row v e k n xs]) S w) :
  xs.length=n * k/\((v=.slice none 0 0/\n=0) ∨ ∃ g cap cur,v=.slice (some ⟨g,0,none⟩) n cap/\n<=cap/\cap<=maxLen/\cur.size=cap * k/\cur.toList.take (n * k)=xs/\Inv w0 X (A++[.blk g (.cells cur e)]) S w):=by
 have hm:w.ownsRow 0 e k v n xs:=h.its (.row v e k n xs) (by simp)
 obtain ⟨hl,hm⟩:=hm
 refine ⟨hl,?_⟩
 rcases hm with hn|⟨g,cap,cur,rfl,_,hg,hnc,hcm,hcs,ht⟩
 ·exact .inl hn
 ·have hf:bX (A++[Item.blk g (.cells cur e)])=bX (A++[Item.row (.slice (some ⟨g,0,none⟩) n cap) e k n xs]):=by
   simp [bX,Item.foot,Value.ownBlock]
  refine .inr ⟨g,cap,cur,rfl,hnc,hcm,hcs,ht,h.size,h.os,h.tape,h.output,h.old,fun it hit=>?_,by rw [hf]; exact h.nd,by rw [hf]; exact h.new,by rw [hf]; exact h.pub⟩
  rcases List.mem_append.1 hit with hit|hit
  ·exact h.its it (List.mem_append_left _ hit)
  ·simp at hit
   subst hit
   exact hg
theorem Inv.closeRow {w0 w:World} {X:List Nat} {A:List Item} {S:aF} {g cap k n:Nat} {cur:Array Value} {e:TypeId} (h:Inv w0 X (A++[.blk g (.cells cur e)]) S w) (hn:n<=cap) (hc:cap<=maxLen) (hs:cur.size=cap * k) :
  Inv w0 X (A++[.row (.slice (some ⟨g,0,none⟩) n cap) e k n (cur.toList.take (n * k))]) S w:=by
 have hg:w.heap[g]?=some (.cells cur e):=h.its (.blk g (.cells cur e)) (by simp)
 have hf:bX (A++[Item.row (.slice (some ⟨g,0,none⟩) n cap) e k n (cur.toList.take (n * k))])=bX (A++[Item.blk g (.cells cur e)]):=by
  simp [bX,Item.foot,Value.ownBlock]
 refine ⟨h.size,h.os,h.tape,h.output,h.old,fun it hit=>?_,by rw [hf]; exact h.nd,by rw [hf]; exact h.new,by rw [hf]; exact h.pub⟩
 rcases List.mem_append.1 hit with hit|hit
 ·exact h.its it (List.mem_append_left _ hit)
 ·simp at hit
  subst hit
  refine ⟨?_,.inr ⟨g,cap,cur,rfl,Nat.zero_le _,hg,hn,hc,hs,rfl⟩⟩
  rw [List.length_take,Array.length_toList,hs]
  exact Nat.min_eq_left (Nat.mul_le_mul_right k hn)

section
attribute [local irreducible] Run CondV ah be
end

end Go.Proofs.YtemmhhdnlbmicaaGreat

/- Trees grown by append; impl.own and its kin. -/
namespace Go.Proofs.YtemmhhdnlbmicaaGreat
open Go Go.RowKit

structure Grown {α:Type} (k:Nat) (R:bE->List Value->α->Prop) (Ls:List bE) (css:List (List Value)) (ys:List α):Prop where
 hL:Ls.length=ys.length
 hc:css.length=ys.length
 hk:∀ cs∈css,cs.length=k
 hR:∀ i (h:i<ys.length) (h1:i<Ls.length) (h2:i<css.length),R Ls[i] css[i] ys[i]
theorem Grown.nil {α:Type} (k:Nat) (R:bE->List Value->α->Prop):Grown k R [] [] ([]:List α):=⟨rfl,rfl,by simp,fun i h=>by simp at h⟩
theorem Grown.snoc {α:Type} {k:Nat} {R:bE->List Value->α->Prop} {Ls:List bE} {css:List (List Value)} {ys:List α} (h:Grown k R Ls css ys) {L:bE} {cs:List Value} {y:α} (hR:R L cs y) (hl:cs.length=k) :
  Grown k R (Ls++[L]) (css++[cs]) (ys++[y]):=by
 refine ⟨by simp [h.hL],by simp [h.hc],fun c hc=>?_,fun i h0 h1 h2=>?_⟩
 ·rcases List.mem_append.1 hc with hc|hc
  ·exact h.hk c hc
  ·simp at hc; subst hc; exact hl
 ·have e1:=h.hL
  have e2:=h.hc
  by_cases hi:i<ys.length
  ·rw [List.getElem_append_left (by omega),List.getElem_append_left (by omega),List.getElem_append_left hi]
   exact h.hR i hi (by omega) (by omega)
  ·have:i=ys.length:=by simp at h0; omega
   subst this
   rw [List.getElem_append_right (by omega),List.getElem_append_right (by omega),List.getElem_append_right (by omega)]
   simp only [e1,e2,Nat.sub_self,List.getElem_cons_zero]
   exact hR
theorem jB (k:Nat):∀ (css:List (List Value)) (i:Nat) (_:∀ cs∈css,cs.length=k) (h:i<css.length),(css.flatten.drop (i * k)).take k=css[i]
 | [],i,_,h=>by simp at h
 | c::css,0,hk,_=>by
  have:=hk c (List.mem_cons_self ..)
  rw [List.flatten_cons,Nat.zero_mul,List.drop_zero,List.take_append_of_le_length (by omega),List.take_of_length_le (by omega)]
  rfl
 | c::css,i+1,hk,h=>by
  have:=hk c (List.mem_cons_self ..)
  rw [List.flatten_cons,Nat.succ_mul,Nat.add_comm,<- List.drop_drop,List.drop_left' this]
  exact jB k css i (fun cs hc=>hk cs (List.mem_cons_of_mem _ hc)) (by simpa using h)
abbrev bh (v:Value) (e:TypeId) (k:Nat) (css:List (List Value)):Item:=.row v e k css.length css.flatten
theorem Inv.rowTree {α:Type} {w0 w:World} {X:List Nat} {A:List Item} {S:aF} {v:Value} {e:TypeId} {k:Nat} {R:bE->List Value->α->Prop} {Ls:List bE} {css:List (List Value)} {ys:List α}
  (h:Inv w0 X (A++(bh v e k css::bO Ls.flatten)) S w) (hg:Grown k R Ls css ys):∃ L,TrSl k R L v ys/\Inv w0 X (A++bO L) S w:=by
 have hp:List.Perm ((A++bO Ls.flatten)++[bh v e k css]) (A++(bh v e k css::bO Ls.flatten)):=by
  rw [List.append_assoc]
  exact List.Perm.append_left _ List.perm_append_comm
 obtain ⟨hl,ho⟩:=(h.perm hp).openRow
 have hcy:=hg.hc
 have hLy:=hg.hL
 rcases ho with ⟨rfl,h0⟩|⟨g,cap,cur,rfl,hnc,hcm,hcs,ht,hI⟩
 ·have:ys=[]:=List.eq_nil_of_length_eq_zero (by omega)
  subst this
  refine ⟨[],TrSl.nil (by simp [maxLen]),?_⟩
  simpa [bO] using h.sub (List.sublist_append_left _ _)
 ·by_cases hy:ys=[]
  ·subst hy
   have:css=[]:=List.eq_nil_of_length_eq_zero (by simpa using hcy)
   subst this
   refine ⟨[],TrSl.nil hcm,?_⟩
   simpa [bO] using h.sub (List.sublist_append_left _ _)
  ·refine ⟨(g,.cells cur e)::Ls.flatten,⟨_,cap,by rw [hcy],by omega,hcm,.inr ⟨g,cur,e,Ls,rfl,rfl,hLy,by omega,fun i h1 h2=>?_⟩⟩,?_⟩
   ·have hik:i * k+k<=css.length * k:=by rw [<- Nat.succ_mul]; exact Nat.mul_le_mul_right k (by omega)
    have:=jB k css i hg.hk (by omega)
    rw [<- ht,List.drop_take,List.take_take,Nat.min_eq_left (by omega)] at this
    rw [bw,this]
    exact hg.hR i h1 h2 (by omega)
   ·refine hI.perm ?_
    rw [List.append_assoc]
    exact List.Perm.append_left _ (List.perm_append_comm (l₁:=[Item.blk g (.cells cur e)]))
theorem fS (v:Value) (e:TypeId) (k:Nat) (css:List (List Value)) (cs:List Value):Item.row v e k (css.length+1) (css.flatten++cs)=bh v e k (css++[cs]):=by
 simp [bh]
section
variable {P:Program} {w w0:World} {X:List Nat} {L:List Item} {S:aF} {K:Value->World->Prop}
attribute [local irreducible] Run CondV ah be
/- append(row, x): x is put into a block of its own first -/
theorem gt (h:Inv w0 X L S w) {T ty e:TypeId} {k by_:Nat} {z v:Value} {cs:List Bool} {css:List (List Value)} (i:Nat) (xs:List Value)
  (hT:nO P T=some (e,k,by_,z)) (hk0:0<k) (hk24:k<=65536) (hi:L[i]?=some (bh v e k css)) (hl:xs.length=k) (h1:∀ u∈xs,u.oneCell'=true) (hfit:css.length+1<=4294967296) (hby:by_<=32768)
  (hk:∀ v' w',Inv w0 X (L.set i (bh v' e k (css++[xs]))) S w'->K v' w') :
  Run P (aS T 1 [(0,.agg xs.toArray)]) w fun u w'=>Run P (aq .append #[T,T] ty cs [v,u]) w' K:=by
 refine eN h hT (by simp [Value.cells,hl]) hk24 hk0 fun b w' hI=>?_
 have hil:i<L.length:=(List.getElem?_eq_some_iff.1 hi).1
 refine fy hI i xs hT hk0 (by rw [List.getElem?_append_left hil]; exact hi) (by omega) (m:=1) (o:=0) ?_ h1 hfit hby fun v' w' hI=>?_
 ·intro j u hj
  rw [hI.cellL (i:=L.length) (by rw [List.getElem?_append_right (Nat.le_refl _),Nat.sub_self]; rfl)]
  rw [Nat.zero_add]
  simpa [Value.cells] using hj
 ·refine hk _ _ ?_
  rw [<- fS]
  rw [List.set_append_left _ _ hil] at hI
  exact hI.sub (List.sublist_append_left _ _)
end

section
attribute [local irreducible] Run CondV ah be
theorem yw {ts:List T} (ih:∀ t∈ts,∀ (S:aF) (cs:List Value),RdT S cs t->wT t<=1048576->Tri Tryz.prog Jh [.agg cs.toArray] [] S (FV S t))
  {S:aF} {v:Value} (h:RdSl S 4 (RdT S) v ts) (hw:ts.length+wL ts<=1048576):Tri Tryz.prog u5 [v] [] S (Lg 4 TrT S ts):=by
 intro w hI
 refine wE ?_
 unfold tg
 refine a9 h ay ?_
 refine ⟨fun i t w'=>∃ (k:Nat) (Ls:List bE) (css:List (List Value)),k<=ts.length/\i=.int .i64 k/\Grown 4 TrT Ls css (ts.take k)/\Inv w [] (bh t ab 4 css::bO Ls.flatten) S w',
  fun i _ _=>ts.length - (intOf i).toNat,⟨0,[],[],Nat.zero_le _,rfl,Grown.nil _ _,hI.rowNil ab 4⟩,?_⟩
 intro t8 _ t3 _ _ _ _ _ _ _ _ _ w'
 rintro ⟨k,Ls,css,hk,rfl,hg,hI⟩
 refine bW ?_
 refine bl (fun hki=>?_) (fun hki=>?_)
 ·have hk':k<ts.length:=by omega
  have htl:(ts.take k).length=k:=by simp; omega
  have hcl:=hg.hc
  refine dZ hI h ay ao hk' (fun _ _=>RdT.length) fun cs hcs=>?_
  have hm:=List.getElem_mem hk'
  have hwm:=jS hm
  have hlc:=hcs.length
  refine bH hI bL fun b6 w' hI=>?_
  have hI:=hI.perm (M:=.blk b6 _::(bh t3 ab 4 css::bO Ls.flatten)) (List.perm_append_comm (l₁:=[_]))
  refine bg hI 0 rfl ao (by simpa using hlc) rfl (by simpa using hcs.one) fun w' hI=>?_
  refine bb hI 0 ao rfl (by simpa using hlc) ?_
  have hI:Inv w [] (bh t3 ab 4 css::bO Ls.flatten) S w':=hI.sub (List.sublist_cons_self _ _)
  refine Run.call0 FQ Gq hI (ih _ hm S cs hcs (by omega)) fun v' I' S' w'=>?_
  rintro ⟨rfl,cs',L,rfl,rfl,hT⟩ _ hI
  refine gt hI 0 cs' bK (by omega) (by omega) rfl hT.length hT.one (by omega) (by omega) fun v' w' hI=>?_
  refine bN (by omega) ?_
  refine ⟨⟨k+1,Ls++[L],css++[cs'],hk',rfl,?_,?_⟩,by simp [intOf]; omega⟩
  ·rw [List.take_succ_eq_append_getElem hk']
   exact hg.snoc hT hT.length
  ·simp only [List.flatten_append,List.flatten_cons,List.flatten_nil,List.append_nil,e9]
   exact hI
 ·have:k=ts.length:=by omega
  subst this
  rw [List.take_length] at hg
  obtain ⟨L,hT,hI⟩:=Inv.rowTree (A:=[]) hI hg
  exact ⟨_,_,_,rfl,hI,Ext.refl _ _ _,rfl,_,rfl,hT⟩
theorem B9:∀ (t:T) (S:aF) (cs:List Value),RdT S cs t->wT t<=1048576->Tri Tryz.prog Jh [.agg cs.toArray] [] S (FV S t):=by
 refine T.ind fun k n s ks ih S cs h hw=>?_
 intro w hI
 obtain ⟨kv,rfl,h1,h2,hs,hks⟩:=RdT.iff.1 h
 simp only [T.name,T.kids,T.kind,T.n] at h1 h2 hs hks ⊢
 simp only [wT] at hw
 refine Gn ?_
 unfold Fm
 refine bQ hI fun b1 w' hI=>?_
 refine bH hI bL fun b2 w' hI=>?_
 refine aI hI 0 rfl aT aR rfl ?_
 refine Run.call0 rX rc hI (yw ih hks (by omega)) fun v' I' S' w'=>?_
 rintro ⟨rfl,L,rfl,hT⟩ _ hI
 have hv:v'.cells=#[v']/\v'.oneCell'=true:=by obtain ⟨a,cap,rfl,_⟩:=hT; exact ⟨rfl,rfl⟩
 refine ji hI 0 rfl aT aR rfl hv.1 hv.2 fun w' hI=>?_
 refine bb hI 0 ao rfl rfl ?_
 refine bg hI 1 rfl ao rfl rfl ?_ fun w' hI=>?_
 ·intro u hu
  have hu':u∈([.int .i64 k,.int .i64 n,.string s,v']:List Value):=hu
  simp at hu'
  rcases hu' with rfl|rfl|rfl|rfl <;> first|rfl|exact hv.2
 refine cG hI 1 ao rfl rfl ?_
 refine ⟨_,_,_,rfl,hI.sub (List.sublist_append_right [_,_] (bO L)),Ext.refl _ _ _,rfl,[.int .i64 k,.int .i64 n,.string s,v'],L,rfl,rfl,TrT.iff.2 ⟨v',rfl,h1,h2,hs,hT⟩⟩
theorem AC {ts:List T} {S:aF} {v:Value} (h:RdSl S 4 (RdT S) v ts) (hw:ts.length+wL ts<=1048576):Tri Tryz.prog u5 [v] [] S (Lg 4 TrT S ts):=
 yw (fun t _=>B9 t) h hw
end

end Go.Proofs.YtemmhhdnlbmicaaGreat

/- impl.ownClause, impl.ownProgram. -/
namespace Go.Proofs.YtemmhhdnlbmicaaGreat
open Go Go.RowKit
section
variable {w:World} {K:Value->World->Prop}
attribute [local irreducible] Run
theorem iF {a b:Int} {s:ByteArray} {k:Value} (hk:K (.agg #[.int .i64 a,.int .i64 b,.string s,k,.slice none 0 0]) w):Run Tryz.prog (dD aQ [(0,.agg #[.int .i64 a,.int .i64 b,.string s,k])]) w K:=by
 refine Run.of (v:=.agg #[.int .i64 a,.int .i64 b,.string s,k,.slice none 0 0]) (w':=w) ?_ hk
 unfold dD
 rw [Sem.run_bind,run_build w aQ _ #[.int .i64 a,.int .i64 b,.string s,k,.slice none 0 0] (by kernel_rfl),Result.andThen_ok]
 rfl
theorem vx {a b:Int} {s:ByteArray} (hk:K (.agg #[.int .i64 a,.int .i64 b,.string s,.slice none 0 0]) w):Run Tryz.prog (dD ab [(0,.int .i64 a),(1,.int .i64 b),(2,.string s)]) w K:=by
 refine Run.of (v:=.agg #[.int .i64 a,.int .i64 b,.string s,.slice none 0 0]) (w':=w) ?_ hk
 unfold dD
 rw [Sem.run_bind,run_build w ab _ #[.int .i64 a,.int .i64 b,.string s,.slice none 0 0] (by kernel_rfl),Result.andThen_ok]
 rfl
end
section
attribute [local irreducible] Run CondV ah be
end

end Go.Proofs.YtemmhhdnlbmicaaGreat

/- impl.ownProgram; spec's copies. -/
namespace Go.Proofs.YtemmhhdnlbmicaaGreat
open Go Go.RowKit
theorem RdC.one {S:aF} {cs:List Value} {c:C} (h:RdC S cs c):∀ u∈cs,u.oneCell'=true:=by
 obtain ⟨hd,ks,rfl,h1,a,cap,rfl,_⟩:=h
 intro u hu
 rcases List.mem_append.1 hu with hu|hu
 ·exact h1.one u hu
 ·simp at hu; subst hu; rfl
section
attribute [local irreducible] Run CondV ah be
/- a row's value is a slice -/
theorem Inv.rowSlice {w0 w:World} {X:List Nat} {L:List Item} {S:aF} {v:Value} {e:TypeId} {k n:Nat} {xs:List Value} (h:Inv w0 X L S w) (i:Nat) (hi:L[i]?=some (.row v e k n xs)):∃ a m c,v=.slice a m c:=by
 have hm:w.ownsRow 0 e k v n xs:=h.its (.row v e k n xs) (List.mem_of_getElem? hi)
 rcases hm.2 with ⟨rfl,_⟩|⟨g,cap,cur,rfl,_⟩
 ·exact ⟨_,_,_,rfl⟩
 ·exact ⟨_,_,_,rfl⟩
def bv (B1 B2 B3 B3' r r':Item) (rest:List Item) (M:bE) (B27:Item) (d7 d8 d9 d11:Bool):List Item:=
 B1::B2::(match d11 with|true=>B3'|false=>B3)::(match d9 with|true=>r'|false=>r)::(rest++((match d7 with|true=>bO M|false=>[])++(match d8 with|true=>[B27]|false=>[])))

theorem fN:∀ (t:T) (S:aF) (cs:List Value),RdT S cs t->wT t<=1048576->Tri Tryz.prog qg [.agg cs.toArray] [] S (FV S t):=by
 refine T.ind fun k n s ks ih S cs h hw=>?_
 intro w hI
 obtain ⟨kv,rfl,h1,h2,hs,hks⟩:=RdT.iff.1 h
 simp only [T.name,T.kids,T.kind,T.n] at h1 h2 hs hks ⊢
 simp only [wT] at hw
 refine nQ ?_
 unfold m9
 refine bQ hI fun b1 w' hI=>?_
 refine bH hI bL fun b2 w' hI=>?_
 refine aI hI 0 rfl bD bo rfl ?_
 refine aI hI 0 rfl bF bo rfl ?_
 refine aI hI 0 rfl bp bm rfl ?_
 refine vx ?_
 refine bH hI bL fun b3 w' hI=>?_
 refine bg hI 2 rfl ao rfl rfl (by simp [Value.oneCell']) fun w' hI=>?_
 have hI:=hI.rowNil ab 4
 refine ⟨fun i w'=>∃ (j:Nat) (kvc:Value) (Ls:List bE) (css:List (List Value)),j<=ks.length/\i=.int .i64 j/\Grown 4 TrT Ls css (ks.take j)/\
   Inv w [] (.blk b1 (.cells #[.int .i64 k,.int .i64 n,.string s,kv] ab)::.blk b2 (.cells #[.int .i64 0,.int .i64 0,.string ⟨#[]⟩,.slice none 0 0] ab)::.blk b3 (.cells #[.int .i64 k,.int .i64 n,.string s,kvc] ab)::bh kvc ab 4 css::bO Ls.flatten) S w',
  fun i _=>ks.length - (intOf i).toNat,⟨0,_,[],[],Nat.zero_le _,rfl,Grown.nil _ _,hI⟩,?_⟩
 intro t4 _ _ _ _ _ _ _ _ _ _ _ _ _ _ _ _ _ _ w'
 rintro ⟨j,kvc,Ls,css,hj,rfl,hg,hI⟩
 refine aI hI 0 rfl aT aR rfl ?_
 refine a9 hks ay ?_
 refine bW ?_
 refine bl (fun hji=>?_) (fun hji=>?_)
 ·have hj':j<ks.length:=by omega
  have hjl:(ks.take j).length=j:=by simp; omega
  have hcl:=hg.hc
  have hm:=List.getElem_mem hj'
  have hwm:=jS hm
  obtain ⟨b,o,cap,c,E,fz,rfl,hS,hR⟩:=hks.at_ hj'
  refine ⟨fun D dv cI cX bZ bS bV cf cd cC cc bY w_=>(D 0=true->bY=.pointer (some ⟨b3,3,none⟩))/\(D 1=true->cc=kvc)/\(D 2=true->cC=.pointer (some ⟨b1,3,none⟩))/\(D 3=true->cd=.slice (some ⟨b,o,none⟩) (ks).length cap)/\(D 4=true->cf=.int .i64 j)/\(D 5=true->bV=.pointer (some ⟨b,o+j * 4,none⟩))/\(D 6=true->bS=.agg (bw c (o+j * 4) 4).toArray)/\(D 7=true->True)/\(D 8=true->True)/\(D 9=true->True)/\(D 10=true->dv=.pointer (some ⟨b3,3,none⟩))/\(D 11=true->True)/\∃ M cs7 b8,(D 7=true->bZ=.agg cs7.toArray/\TrT M cs7 (ks)[j])/\(D 8=true->cX=.slice (some ⟨b8,0,none⟩) 1 1)/\(D 8=true->D 7=true)/\(D 9=true->D 8=true)/\(D 11=true->D 9=true)/\(D 11=true->D 1=true)/\Inv w [] (bv (.blk b1 (.cells #[.int .i64 k,.int .i64 n,.string s,.slice (some ⟨b,o,none⟩) ks.length cap] ab)) (.blk b2 (.cells #[.int .i64 0,.int .i64 0,.string ⟨#[]⟩,.slice none 0 0] ab)) (.blk b3 (.cells #[.int .i64 k,.int .i64 n,.string s,kvc] ab)) (.blk b3 (.cells #[.int .i64 k,.int .i64 n,.string s,cI] ab)) (bh kvc ab 4 css) (bh cI ab 4 (css++[cs7])) (bO Ls.flatten) M (.blk b8 (.cells cs7.toArray ab)) (D 7) (D 8) (D 9) (D 11)) S w_,⟨ae,ae,ae,ae,ae,ae,ae,ae,ae,ae,ae,ae,⟨[],[],0,ae,ae,ae,ae,ae,ae,by simpa [bv,bO] using hI.draw⟩⟩,⟨?_,?_,?_,?_,?_,?_,?_,?_,?_,?_,?_,?_,trivial⟩,?_⟩
  ·intro D aY  dv cI cX bZ bS bV cf cd cC cc bY w_
   rintro ⟨aA,aB,aC,az,av,aE,aD,aH,aK,aP,ag,ai,⟨M,cs7,b8,e7,e8,k8,k9,k11,k1,hI⟩⟩
   refine bi aT ?_
   exact ⟨fun _=>rfl,aB,aC,az,av,aE,aD,aH,aK,aP,ag,ai,⟨M,cs7,b8,e7,e8,k8,k9,k11,k1,hI⟩⟩
  ·intro D aY b0 dv cI cX bZ bS bV cf cd cC cc bY w_
   rintro ⟨aA,aB,aC,az,av,aE,aD,aH,aK,aP,ag,ai,⟨M,cs7,b8,e7,e8,k8,k9,k11,k1,hI⟩⟩
   obtain rfl:=aA b0
   have f11:D 11=false:=Bool.eq_false_iff.2 fun h=>by rw [k1 h] at aY; cases aY
   refine bG (b:=b3) hI 2 (c:=(#[.int .i64 k,.int .i64 n,.string s,kvc])) aR (by rw [f11]; rfl) rfl ?_
   have k1:=fun (_:aw D 1 11=true)=>(rfl:aw D 1 1=true)
   exact ⟨aA,fun _=>rfl,aC,az,av,aE,aD,aH,aK,aP,ag,ai,⟨M,cs7,b8,e7,e8,k8,k9,k11,k1,hI⟩⟩
  ·intro D aY  dv cI cX bZ bS bV cf cd cC cc bY w_
   rintro ⟨aA,aB,aC,az,av,aE,aD,aH,aK,aP,ag,ai,⟨M,cs7,b8,e7,e8,k8,k9,k11,k1,hI⟩⟩
   refine bi aT ?_
   exact ⟨aA,aB,fun _=>rfl,az,av,aE,aD,aH,aK,aP,ag,ai,⟨M,cs7,b8,e7,e8,k8,k9,k11,k1,hI⟩⟩
  ·intro D aY ec dv cI cX bZ bS bV cf cd cC cc bY w_
   rintro ⟨aA,aB,aC,az,av,aE,aD,aH,aK,aP,ag,ai,⟨M,cs7,b8,e7,e8,k8,k9,k11,k1,hI⟩⟩
   obtain rfl:=aC ec
   refine bG hI 0 aR rfl rfl ?_
   exact ⟨aA,aB,aC,fun _=>rfl,av,aE,aD,aH,aK,aP,ag,ai,⟨M,cs7,b8,e7,e8,k8,k9,k11,k1,hI⟩⟩
  ·intro D aY  dv cI cX bZ bS bV cf cd cC cc bY w_
   rintro ⟨aA,aB,aC,az,av,aE,aD,aH,aK,aP,ag,ai,⟨M,cs7,b8,e7,e8,k8,k9,k11,k1,hI⟩⟩
   exact ⟨aA,aB,aC,az,fun _=>rfl,aE,aD,aH,aK,aP,ag,ai,⟨M,cs7,b8,e7,e8,k8,k9,k11,k1,hI⟩⟩
  ·intro D aY dB dM dv cI cX bZ bS bV cf cd cC cc bY w_
   rintro ⟨aA,aB,aC,az,av,aE,aD,aH,aK,aP,ag,ai,⟨M,cs7,b8,e7,e8,k8,k9,k11,k1,hI⟩⟩
   obtain rfl:=az dB
   obtain rfl:=av dM
   refine bk ay hj' ?_
   exact ⟨aA,aB,aC,az,av,fun _=>rfl,aD,aH,aK,aP,ag,ai,⟨M,cs7,b8,e7,e8,k8,k9,k11,k1,hI⟩⟩
  ·intro D aY dT dv cI cX bZ bS bV cf cd cC cc bY w_
   rintro ⟨aA,aB,aC,az,av,aE,aD,aH,aK,aP,ag,ai,⟨M,cs7,b8,e7,e8,k8,k9,k11,k1,hI⟩⟩
   obtain rfl:=aE dT
   refine cU ao hR.length (fun j v hj=>by rw [hI.cellS hS]; exact bn rfl j v hj) ?_
   exact ⟨aA,aB,aC,az,av,aE,fun _=>rfl,aH,aK,aP,ag,ai,⟨M,cs7,b8,e7,e8,k8,k9,k11,k1,hI⟩⟩
  ·intro D aY cJ dv cI cX bZ bS bV cf cd cC cc bY w_
   rintro ⟨aA,aB,aC,az,av,aE,aD,aH,aK,aP,ag,ai,⟨M,cs7,b8,e7,e8,k8,k9,k11,k1,hI⟩⟩
   obtain rfl:=aD cJ
   have f8:D 8=false:=Bool.eq_false_iff.2 fun h=>by rw [k8 h] at aY; cases aY
   have f9:D 9=false:=Bool.eq_false_iff.2 fun h=>by rw [k9 h] at f8; cases f8
   have f11:D 11=false:=Bool.eq_false_iff.2 fun h=>by rw [k11 h] at f9; cases f9
   rw [aY,f8,f9,f11] at hI
   refine Run.call0 eZ fc hI (ih _ (List.getElem_mem hj') S _ hR (by omega)) fun v' I' S w_=>?_
   rintro ⟨rfl,cs7,M,rfl,rfl,hT⟩ _ hI
   have e7:aw D 7 7=true->Value.agg cs7.toArray=Value.agg cs7.toArray/\TrT M cs7 (ks)[j]:=fun _=>⟨rfl,hT⟩
   have k8:=fun (_:aw D 7 8=true)=>(rfl:aw D 7 7=true)
   have hI:Inv w [] (bv (.blk b1 (.cells #[.int .i64 k,.int .i64 n,.string s,.slice (some ⟨b,o,none⟩) ks.length cap] ab)) (.blk b2 (.cells #[.int .i64 0,.int .i64 0,.string ⟨#[]⟩,.slice none 0 0] ab)) (.blk b3 (.cells #[.int .i64 k,.int .i64 n,.string s,kvc] ab)) (.blk b3 (.cells #[.int .i64 k,.int .i64 n,.string s,cI] ab)) (bh kvc ab 4 css) (bh cI ab 4 (css++[cs7])) (bO Ls.flatten) M (.blk b8 (.cells cs7.toArray ab)) true (D 8) (D 9) (D 11)) S w_:=by
    rw [f8,f9,f11]
    simpa [bv] using hI
   exact ⟨aA,aB,aC,az,av,aE,aD,fun _=>by first|assumption|trivial,aK,aP,ag,ai,⟨M,cs7,b8,e7,e8,k8,k9,k11,k1,hI⟩⟩
  ·intro D aY d6 dv cI cX bZ bS bV cf cd cC cc bY w_
   rintro ⟨aA,aB,aC,az,av,aE,aD,aH,aK,aP,ag,ai,⟨M,cs7,b8,e7,e8,k8,k9,k11,k1,hI⟩⟩
   have Kh:=aH d6
   have f9:D 9=false:=Bool.eq_false_iff.2 fun h=>by rw [k9 h] at aY; cases aY
   have f11:D 11=false:=Bool.eq_false_iff.2 fun h=>by rw [k11 h] at f9; cases f9
   obtain ⟨q7,hT⟩:=e7 d6
   subst q7
   rw [d6,aY,f9,f11] at hI
   refine eN hI bK (by simp [Value.cells,hT.length]) (by omega) (by omega) fun b8 w_ hI=>?_
   have e7:aw D 8 7=true->Value.agg cs7.toArray=Value.agg cs7.toArray/\TrT M cs7 (ks)[j]:=fun _=>⟨rfl,hT⟩
   have e8:=fun (_:aw D 8 8=true)=>(rfl:Value.slice (some ⟨b8,0,none⟩) 1 1=_)
   have k8:=fun (_:aw D 8 8=true)=>d6
   have k9:=fun (_:aw D 8 9=true)=>(rfl:aw D 8 8=true)
   have hI:Inv w [] (bv (.blk b1 (.cells #[.int .i64 k,.int .i64 n,.string s,.slice (some ⟨b,o,none⟩) ks.length cap] ab)) (.blk b2 (.cells #[.int .i64 0,.int .i64 0,.string ⟨#[]⟩,.slice none 0 0] ab)) (.blk b3 (.cells #[.int .i64 k,.int .i64 n,.string s,kvc] ab)) (.blk b3 (.cells #[.int .i64 k,.int .i64 n,.string s,cI] ab)) (bh kvc ab 4 css) (bh cI ab 4 (css++[cs7])) (bO Ls.flatten) M (.blk b8 (.cells cs7.toArray ab)) (D 7) true (D 9) (D 11)) S w_:=by
    rw [d6,f9,f11]
    simpa [bv,Value.cells] using hI
   exact ⟨aA,aB,aC,az,av,aE,aD,aH,fun _=>by first|assumption|trivial,aP,ag,ai,⟨M,cs7,b8,e7,e8,k8,k9,k11,k1,hI⟩⟩
  ·intro D aY dE gi m7 dv cI cX bZ bS bV cf cd cC cc bY w_
   rintro ⟨aA,aB,aC,az,av,aE,aD,aH,aK,aP,ag,ai,⟨M,cs7,b8,e7,e8,k8,k9,k11,k1,hI⟩⟩
   obtain rfl:=aB dE
   have Mg:=aK gi
   have f11:D 11=false:=Bool.eq_false_iff.2 fun h=>by rw [k11 h] at aY; cases aY
   have q8:=e8 gi
   subst q8
   obtain ⟨_,hT⟩:=e7 m7
   rw [m7,gi,aY,f11] at hI
   have hblk:((bv (.blk b1 (.cells #[.int .i64 k,.int .i64 n,.string s,.slice (some ⟨b,o,none⟩) ks.length cap] ab)) (.blk b2 (.cells #[.int .i64 0,.int .i64 0,.string ⟨#[]⟩,.slice none 0 0] ab)) (.blk b3 (.cells #[.int .i64 k,.int .i64 n,.string s,cc] ab)) (.blk b3 (.cells #[.int .i64 k,.int .i64 n,.string s,cI] ab)) (bh cc ab 4 css) (bh cI ab 4 (css++[cs7])) (bO Ls.flatten) M (.blk b8 (.cells cs7.toArray ab)) true true false false))[4+(bO Ls.flatten).length+(bO M).length]?=some (.blk b8 (.cells cs7.toArray ab)):=by
    have e4:4+(bO Ls.flatten).length+(bO M).length=((bO Ls.flatten).length+(bO M).length)+1+1+1+1:=by omega
    rw [e4]
    simp only [bv,List.getElem?_cons_succ]
    rw [List.getElem?_append_right (by omega),Nat.add_sub_cancel_left,List.getElem?_append_right (Nat.le_refl _),Nat.sub_self]; rfl
   refine fy hI 3 cs7 bK (by omega) rfl (by rw [hT.length]) (m:=1) (o:=0) ?_ hT.one (by omega) (by omega) fun v' w_ hI=>?_
   ·intro i u hi
    rw [hI.cellL hblk,Nat.zero_add]
    simpa using hi
   rw [fS] at hI
   have k9:=fun (_:aw D 9 9=true)=>gi
   have k11:=fun (_:aw D 9 11=true)=>(rfl:aw D 9 9=true)
   have hI:Inv w [] (bv (.blk b1 (.cells #[.int .i64 k,.int .i64 n,.string s,.slice (some ⟨b,o,none⟩) ks.length cap] ab)) (.blk b2 (.cells #[.int .i64 0,.int .i64 0,.string ⟨#[]⟩,.slice none 0 0] ab)) (.blk b3 (.cells #[.int .i64 k,.int .i64 n,.string s,cc] ab)) (.blk b3 (.cells #[.int .i64 k,.int .i64 n,.string s,v'] ab)) (bh cc ab 4 css) (bh v' ab 4 (css++[cs7])) (bO Ls.flatten) M (.blk b8 (.cells cs7.toArray ab)) (D 7) (D 8) true (D 11)) S w_:=by
    rw [m7,gi,f11]
    exact hI
   exact ⟨aA,aB,aC,az,av,aE,aD,aH,aK,fun _=>by first|assumption|trivial,ag,ai,⟨M,cs7,b8,e7,e8,k8,k9,k11,k1,hI⟩⟩
  ·intro D aY b0 il wv DJ yE HN Jw Kw MK MM dv cI cX bZ bS bV cf cd cC cc bY w_
   rintro ⟨aA,aB,aC,az,av,aE,aD,aH,aK,aP,ag,ai,⟨M,cs7,b8,e7,e8,k8,k9,k11,k1,hI⟩⟩
   refine bi aT ?_
   exact ⟨aA,aB,aC,az,av,aE,aD,aH,aK,aP,fun _=>rfl,ai,⟨M,cs7,b8,e7,e8,k8,k9,k11,k1,hI⟩⟩
  ·intro D aY gv fl Kg DW mj Ee yD zv D9 JS lu n6 KF dv cI cX bZ bS bV cf cd cC cc bY w_
   rintro ⟨aA,aB,aC,az,av,aE,aD,aH,aK,aP,ag,ai,⟨M,cs7,b8,e7,e8,k8,k9,k11,k1,hI⟩⟩
   obtain rfl:=ag gv
   have Mt:=aP fl
   rw [lu,n6,fl,aY] at hI
   obtain ⟨va,vn,vc,hv9⟩:=Inv.rowSlice hI 3 rfl
   refine fg hI 2 (n:=1) (by rw [hv9]; rfl) (by decide +kernel) rfl (by simp) (by rw [hv9]; simp [Value.cells,Value.oneCell']) fun w_ hI=>?_
   have hcl9:Value.cells cI=#[cI]:=by rw [hv9]; rfl
   rw [hcl9] at hI
   have k1:=fun (_:aw D 11 11=true)=>mj
   have k11:=fun (_:aw D 11 11=true)=>fl
   have hI:Inv w [] (bv (.blk b1 (.cells #[.int .i64 k,.int .i64 n,.string s,.slice (some ⟨b,o,none⟩) ks.length cap] ab)) (.blk b2 (.cells #[.int .i64 0,.int .i64 0,.string ⟨#[]⟩,.slice none 0 0] ab)) (.blk b3 (.cells #[.int .i64 k,.int .i64 n,.string s,kvc] ab)) (.blk b3 (.cells #[.int .i64 k,.int .i64 n,.string s,cI] ab)) (bh kvc ab 4 css) (bh cI ab 4 (css++[cs7])) (bO Ls.flatten) M (.blk b8 (.cells cs7.toArray ab)) (D 7) (D 8) (D 9) true) S w_:=by
    rw [lu,n6,fl]
    exact hI
   exact ⟨aA,aB,aC,az,av,aE,aD,aH,aK,aP,ag,fun _=>trivial,⟨M,cs7,b8,e7,e8,k8,k9,k11,k1,hI⟩⟩
  intro D fk fw iK gI fK fL fH fC fB fE fM fJ dv cI cX bZ bS bV cf cd cC cc bY w_
  rintro ⟨aA,aB,aC,az,av,aE,aD,aH,aK,aP,ag,ai,⟨M,cs7,b8,e7,e8,k8,k9,k11,k1,hI⟩⟩
  obtain rfl:=ag fw
  have Mt:=aP iK
  have Mg:=aK gI
  have Kh:=aH fK
  obtain rfl:=aD fL
  obtain rfl:=aE fH
  obtain rfl:=av fC
  obtain rfl:=az fB
  obtain rfl:=aC fE
  obtain rfl:=aB fM
  obtain rfl:=aA fJ
  clear aA aB aC az av aE aD aH aK aP ag ai
  obtain ⟨_,hT⟩:=e7 fK
  rw [fK,gI,iK,fk] at hI
  refine bN (by omega) ?_
  refine ⟨⟨j+1,cI,Ls++[M],css++[cs7],hj',rfl,?_,?_⟩,by simp [intOf]; omega⟩
  ·rw [List.take_succ_eq_append_getElem hj']
   exact hg.snoc hT hT.length
  ·simp only [List.flatten_append,List.flatten_cons,List.flatten_nil,List.append_nil,e9]
   refine hI.sub ?_
   simp only [bv]
   rw [<- List.append_assoc]
   exact (((List.sublist_append_left _ _).cons_cons _).cons_cons _).cons_cons _ |>.cons_cons _
 ·have:j=ks.length:=by omega
  subst this
  rw [List.take_length] at hg
  obtain ⟨va,vn,vc,hvk⟩:=hI.rowSlice 3 rfl
  have hv1:kvc.oneCell'=true:=by rw [hvk]; rfl
  refine bb hI 2 ao rfl rfl ?_
  refine bg hI 1 rfl ao rfl rfl ?_ fun w' hI=>?_
  ·intro u hu
   have hu':u∈([.int .i64 k,.int .i64 n,.string s,kvc]:List Value):=hu
   simp at hu'
   rcases hu' with rfl|rfl|rfl|rfl <;> first|rfl|exact hv1
  refine cG hI 1 ao rfl rfl ?_
  have hI:Inv w [] ([]++(bh kvc ab 4 css::bO Ls.flatten)) S w':=hI.sub (List.sublist_append_right [_,_,_] _)
  obtain ⟨L,hT,hI⟩:=Inv.rowTree hI hg
  exact ⟨_,_,_,rfl,hI,Ext.refl _ _ _,rfl,_,L,rfl,rfl,TrT.iff.2 ⟨kvc,rfl,h1,h2,hs,hT⟩⟩
end

end Go.Proofs.YtemmhhdnlbmicaaGreat

/- spec.l4Copy, spec.l14Copy: clauses and programs copied. -/
namespace Go.Proofs.YtemmhhdnlbmicaaGreat
open Go Go.RowKit
section
attribute [local irreducible] Run CondV ah be
theorem DL {c0:C} {S:aF} {cs:List Value} (h:RdC S cs c0) (hw:wC c0<=1048576):Tri Tryz.prog zi [.agg cs.toArray] [] S (Ne S c0):=by
 intro w hI
 obtain ⟨hd,ks,rfl,h1,h2⟩:=h
 have h1':=h1
 obtain ⟨kv,rfl,g1,g2,g3,g4⟩:=RdT.iff.1 h1
 unfold wC at hw
 refine nG ?_
 unfold oD
 refine bQ hI fun b1 w' hI=>?_
 refine bH hI fh fun b2 w' hI=>?_
 refine bi df ?_
 refine fe hI 0 [.int .i64 c0.head.kind,.int .i64 c0.head.n,.string c0.head.name,kv] ao rfl rfl K0 ?_
 refine Run.call0 eZ fc hI (fN _ S _ h1' (by omega)) fun v' I' S w'=>?_
 rintro ⟨rfl,cs1,N,rfl,rfl,hT1⟩ _ hI
 obtain ⟨kh,rfl,_⟩:=TrT.iff.1 hT1
 refine iF ?_
 refine bH hI fh fun b3 w' hI=>?_
 have hI:=hI.perm (M:=.blk b1 _::.blk b2 _::.blk b3 _::bO N) (((List.perm_append_comm (l₁:=[_])).cons _).cons _)
 refine bg hI 2 rfl bM rfl rfl ?_ fun w' hI=>?_
 ·intro u hu
  have hu':u∈([.int .i64 c0.head.kind,.int .i64 c0.head.n,.string c0.head.name,kh,.slice none 0 0]:List Value):=hu
  simp at hu'
  have o1:kh.oneCell'=true:=hT1.one kh (by simp)
  rcases hu' with rfl|rfl|rfl|rfl|rfl <;> first|rfl|exact o1
 have hI:=hI.rowNil ab 4
 have hI:=hI.perm (M:=.blk b1 (.cells #[.int .i64 c0.head.kind,.int .i64 c0.head.n,.string c0.head.name,kv,ks] aQ)::.blk b2 (.cells #[.int .i64 0,.int .i64 0,.string ⟨#[]⟩,.slice none 0 0,.slice none 0 0] aQ)::.blk b3 (.cells #[.int .i64 c0.head.kind,.int .i64 c0.head.n,.string c0.head.name,kh,.slice none 0 0] aQ)::bh (.slice none 0 0) ab 4 []::bO N) ((((List.perm_append_comm (l₁:=[_])).cons _).cons _).cons _)
 refine ⟨fun i w'=>∃ (j:Nat) (kvc:Value) (Ls:List bE) (css:List (List Value)),j<=c0.body.length/\i=.int .i64 j/\Grown 4 TrT Ls css (c0.body.take j)/\
   Inv w [] (.blk b1 (.cells #[.int .i64 c0.head.kind,.int .i64 c0.head.n,.string c0.head.name,kv,ks] aQ)::.blk b2 (.cells #[.int .i64 0,.int .i64 0,.string ⟨#[]⟩,.slice none 0 0,.slice none 0 0] aQ)::.blk b3 (.cells #[.int .i64 c0.head.kind,.int .i64 c0.head.n,.string c0.head.name,kh,kvc] aQ)::bh kvc ab 4 css::bO (N::Ls).flatten) S w',
  fun i _=>c0.body.length - (intOf i).toNat,⟨0,_,[],[],Nat.zero_le _,rfl,Grown.nil _ _,by simp only [List.flatten_cons,List.flatten_nil,List.append_nil]; exact hI⟩,?_⟩
 intro t4 _ _ _ _ _ _ _ _ _ _ _ _ _ _ _ _ _ _ w'
 rintro ⟨j,kvc,Ls,css,hj,rfl,hg,hI⟩
 refine aI hI 0 rfl bq aR rfl ?_
 refine a9 h2 ay ?_
 refine bW ?_
 refine bl (fun hji=>?_) (fun hji=>?_)
 ·have hj':j<c0.body.length:=by omega
  have hjl:(c0.body.take j).length=j:=by simp; omega
  have hcl:=hg.hc
  have hm:=List.getElem_mem hj'
  have hwm:=jS hm
  obtain ⟨b,o,cap,c,E,fz,rfl,hS,hR⟩:=h2.at_ hj'
  refine ⟨fun D bZ bS bV cf cd cC cc bY du dw dF w_=>(D 0=true->dF=.pointer (some ⟨b3,4,none⟩))/\(D 1=true->dw=kvc)/\(D 2=true->du=.pointer (some ⟨b1,4,none⟩))/\(D 3=true->bY=.slice (some ⟨b,o,none⟩) (c0.body).length cap)/\(D 4=true->cc=.int .i64 j)/\(D 5=true->cC=.pointer (some ⟨b,o+j * 4,none⟩))/\(D 6=true->cd=.agg (bw c (o+j * 4) 4).toArray)/\(D 7=true->True)/\(D 8=true->True)/\(D 9=true->True)/\(D 10=true->bZ=.pointer (some ⟨b3,4,none⟩))/\(D 11=true->True)/\∃ M cs7 b8,(D 7=true->cf=.agg cs7.toArray/\TrT M cs7 (c0.body)[j])/\(D 8=true->bV=.slice (some ⟨b8,0,none⟩) 1 1)/\(D 8=true->D 7=true)/\(D 9=true->D 8=true)/\(D 11=true->D 9=true)/\(D 11=true->D 1=true)/\Inv w [] (bv (.blk b1 (.cells #[.int .i64 c0.head.kind,.int .i64 c0.head.n,.string c0.head.name,kv,.slice (some ⟨b,o,none⟩) c0.body.length cap] aQ)) (.blk b2 (.cells #[.int .i64 0,.int .i64 0,.string ⟨#[]⟩,.slice none 0 0,.slice none 0 0] aQ)) (.blk b3 (.cells #[.int .i64 c0.head.kind,.int .i64 c0.head.n,.string c0.head.name,kh,kvc] aQ)) (.blk b3 (.cells #[.int .i64 c0.head.kind,.int .i64 c0.head.n,.string c0.head.name,kh,bS] aQ)) (bh kvc ab 4 css) (bh bS ab 4 (css++[cs7])) (bO (N::Ls).flatten) M (.blk b8 (.cells cs7.toArray ab)) (D 7) (D 8) (D 9) (D 11)) S w_,⟨ae,ae,ae,ae,ae,ae,ae,ae,ae,ae,ae,ae,⟨[],[],0,ae,ae,ae,ae,ae,ae,by simpa [bv,bO] using hI.draw⟩⟩,⟨?_,?_,?_,?_,?_,?_,?_,?_,?_,?_,?_,?_,trivial⟩,?_⟩
  ·intro D aY  bZ bS bV cf cd cC cc bY du dw dF w_
   rintro ⟨aA,aB,aC,az,av,aE,aD,aH,aK,aP,ag,ai,⟨M,cs7,b8,e7,e8,k8,k9,k11,k1,hI⟩⟩
   refine bi bq ?_
   exact ⟨fun _=>rfl,aB,aC,az,av,aE,aD,aH,aK,aP,ag,ai,⟨M,cs7,b8,e7,e8,k8,k9,k11,k1,hI⟩⟩
  ·intro D aY b0 bZ bS bV cf cd cC cc bY du dw dF w_
   rintro ⟨aA,aB,aC,az,av,aE,aD,aH,aK,aP,ag,ai,⟨M,cs7,b8,e7,e8,k8,k9,k11,k1,hI⟩⟩
   obtain rfl:=aA b0
   have f11:D 11=false:=Bool.eq_false_iff.2 fun h=>by rw [k1 h] at aY; cases aY
   refine bG (b:=b3) hI 2 (c:=(#[.int .i64 c0.head.kind,.int .i64 c0.head.n,.string c0.head.name,kh,kvc])) aR (by rw [f11]; rfl) rfl ?_
   have k1:=fun (_:aw D 1 11=true)=>(rfl:aw D 1 1=true)
   exact ⟨aA,fun _=>rfl,aC,az,av,aE,aD,aH,aK,aP,ag,ai,⟨M,cs7,b8,e7,e8,k8,k9,k11,k1,hI⟩⟩
  ·intro D aY  bZ bS bV cf cd cC cc bY du dw dF w_
   rintro ⟨aA,aB,aC,az,av,aE,aD,aH,aK,aP,ag,ai,⟨M,cs7,b8,e7,e8,k8,k9,k11,k1,hI⟩⟩
   refine bi bq ?_
   exact ⟨aA,aB,fun _=>rfl,az,av,aE,aD,aH,aK,aP,ag,ai,⟨M,cs7,b8,e7,e8,k8,k9,k11,k1,hI⟩⟩
  ·intro D aY ec bZ bS bV cf cd cC cc bY du dw dF w_
   rintro ⟨aA,aB,aC,az,av,aE,aD,aH,aK,aP,ag,ai,⟨M,cs7,b8,e7,e8,k8,k9,k11,k1,hI⟩⟩
   obtain rfl:=aC ec
   refine bG hI 0 aR rfl rfl ?_
   exact ⟨aA,aB,aC,fun _=>rfl,av,aE,aD,aH,aK,aP,ag,ai,⟨M,cs7,b8,e7,e8,k8,k9,k11,k1,hI⟩⟩
  ·intro D aY  bZ bS bV cf cd cC cc bY du dw dF w_
   rintro ⟨aA,aB,aC,az,av,aE,aD,aH,aK,aP,ag,ai,⟨M,cs7,b8,e7,e8,k8,k9,k11,k1,hI⟩⟩
   exact ⟨aA,aB,aC,az,fun _=>rfl,aE,aD,aH,aK,aP,ag,ai,⟨M,cs7,b8,e7,e8,k8,k9,k11,k1,hI⟩⟩
  ·intro D aY dB dM bZ bS bV cf cd cC cc bY du dw dF w_
   rintro ⟨aA,aB,aC,az,av,aE,aD,aH,aK,aP,ag,ai,⟨M,cs7,b8,e7,e8,k8,k9,k11,k1,hI⟩⟩
   obtain rfl:=az dB
   obtain rfl:=av dM
   refine bk ay hj' ?_
   exact ⟨aA,aB,aC,az,av,fun _=>rfl,aD,aH,aK,aP,ag,ai,⟨M,cs7,b8,e7,e8,k8,k9,k11,k1,hI⟩⟩
  ·intro D aY dT bZ bS bV cf cd cC cc bY du dw dF w_
   rintro ⟨aA,aB,aC,az,av,aE,aD,aH,aK,aP,ag,ai,⟨M,cs7,b8,e7,e8,k8,k9,k11,k1,hI⟩⟩
   obtain rfl:=aE dT
   refine cU ao hR.length (fun j v hj=>by rw [hI.cellS hS]; exact bn rfl j v hj) ?_
   exact ⟨aA,aB,aC,az,av,aE,fun _=>rfl,aH,aK,aP,ag,ai,⟨M,cs7,b8,e7,e8,k8,k9,k11,k1,hI⟩⟩
  ·intro D aY cJ bZ bS bV cf cd cC cc bY du dw dF w_
   rintro ⟨aA,aB,aC,az,av,aE,aD,aH,aK,aP,ag,ai,⟨M,cs7,b8,e7,e8,k8,k9,k11,k1,hI⟩⟩
   obtain rfl:=aD cJ
   have f8:D 8=false:=Bool.eq_false_iff.2 fun h=>by rw [k8 h] at aY; cases aY
   have f9:D 9=false:=Bool.eq_false_iff.2 fun h=>by rw [k9 h] at f8; cases f8
   have f11:D 11=false:=Bool.eq_false_iff.2 fun h=>by rw [k11 h] at f9; cases f9
   rw [aY,f8,f9,f11] at hI
   refine Run.call0 eZ fc hI (fN _ S _ hR (by omega)) fun v' I' S w_=>?_
   rintro ⟨rfl,cs7,M,rfl,rfl,hT⟩ _ hI
   have e7:aw D 7 7=true->Value.agg cs7.toArray=Value.agg cs7.toArray/\TrT M cs7 (c0.body)[j]:=fun _=>⟨rfl,hT⟩
   have k8:=fun (_:aw D 7 8=true)=>(rfl:aw D 7 7=true)
   have hI:Inv w [] (bv (.blk b1 (.cells #[.int .i64 c0.head.kind,.int .i64 c0.head.n,.string c0.head.name,kv,.slice (some ⟨b,o,none⟩) c0.body.length cap] aQ)) (.blk b2 (.cells #[.int .i64 0,.int .i64 0,.string ⟨#[]⟩,.slice none 0 0,.slice none 0 0] aQ)) (.blk b3 (.cells #[.int .i64 c0.head.kind,.int .i64 c0.head.n,.string c0.head.name,kh,kvc] aQ)) (.blk b3 (.cells #[.int .i64 c0.head.kind,.int .i64 c0.head.n,.string c0.head.name,kh,bS] aQ)) (bh kvc ab 4 css) (bh bS ab 4 (css++[cs7])) (bO (N::Ls).flatten) M (.blk b8 (.cells cs7.toArray ab)) true (D 8) (D 9) (D 11)) S w_:=by
    rw [f8,f9,f11]
    simpa [bv] using hI
   exact ⟨aA,aB,aC,az,av,aE,aD,fun _=>by first|assumption|trivial,aK,aP,ag,ai,⟨M,cs7,b8,e7,e8,k8,k9,k11,k1,hI⟩⟩
  ·intro D aY d6 bZ bS bV cf cd cC cc bY du dw dF w_
   rintro ⟨aA,aB,aC,az,av,aE,aD,aH,aK,aP,ag,ai,⟨M,cs7,b8,e7,e8,k8,k9,k11,k1,hI⟩⟩
   have Kh:=aH d6
   have f9:D 9=false:=Bool.eq_false_iff.2 fun h=>by rw [k9 h] at aY; cases aY
   have f11:D 11=false:=Bool.eq_false_iff.2 fun h=>by rw [k11 h] at f9; cases f9
   obtain ⟨q7,hT⟩:=e7 d6
   subst q7
   rw [d6,aY,f9,f11] at hI
   refine eN hI bK (by simp [Value.cells,hT.length]) (by omega) (by omega) fun b8 w_ hI=>?_
   have e7:aw D 8 7=true->Value.agg cs7.toArray=Value.agg cs7.toArray/\TrT M cs7 (c0.body)[j]:=fun _=>⟨rfl,hT⟩
   have e8:=fun (_:aw D 8 8=true)=>(rfl:Value.slice (some ⟨b8,0,none⟩) 1 1=_)
   have k8:=fun (_:aw D 8 8=true)=>d6
   have k9:=fun (_:aw D 8 9=true)=>(rfl:aw D 8 8=true)
   have hI:Inv w [] (bv (.blk b1 (.cells #[.int .i64 c0.head.kind,.int .i64 c0.head.n,.string c0.head.name,kv,.slice (some ⟨b,o,none⟩) c0.body.length cap] aQ)) (.blk b2 (.cells #[.int .i64 0,.int .i64 0,.string ⟨#[]⟩,.slice none 0 0,.slice none 0 0] aQ)) (.blk b3 (.cells #[.int .i64 c0.head.kind,.int .i64 c0.head.n,.string c0.head.name,kh,kvc] aQ)) (.blk b3 (.cells #[.int .i64 c0.head.kind,.int .i64 c0.head.n,.string c0.head.name,kh,bS] aQ)) (bh kvc ab 4 css) (bh bS ab 4 (css++[cs7])) (bO (N::Ls).flatten) M (.blk b8 (.cells cs7.toArray ab)) (D 7) true (D 9) (D 11)) S w_:=by
    rw [d6,f9,f11]
    simpa [bv,Value.cells] using hI
   exact ⟨aA,aB,aC,az,av,aE,aD,aH,fun _=>by first|assumption|trivial,aP,ag,ai,⟨M,cs7,b8,e7,e8,k8,k9,k11,k1,hI⟩⟩
  ·intro D aY dE gi m7 bZ bS bV cf cd cC cc bY du dw dF w_
   rintro ⟨aA,aB,aC,az,av,aE,aD,aH,aK,aP,ag,ai,⟨M,cs7,b8,e7,e8,k8,k9,k11,k1,hI⟩⟩
   obtain rfl:=aB dE
   have Mg:=aK gi
   have f11:D 11=false:=Bool.eq_false_iff.2 fun h=>by rw [k11 h] at aY; cases aY
   have q8:=e8 gi
   subst q8
   obtain ⟨_,hT⟩:=e7 m7
   rw [m7,gi,aY,f11] at hI
   have hblk:((bv (.blk b1 (.cells #[.int .i64 c0.head.kind,.int .i64 c0.head.n,.string c0.head.name,kv,.slice (some ⟨b,o,none⟩) c0.body.length cap] aQ)) (.blk b2 (.cells #[.int .i64 0,.int .i64 0,.string ⟨#[]⟩,.slice none 0 0,.slice none 0 0] aQ)) (.blk b3 (.cells #[.int .i64 c0.head.kind,.int .i64 c0.head.n,.string c0.head.name,kh,dw] aQ)) (.blk b3 (.cells #[.int .i64 c0.head.kind,.int .i64 c0.head.n,.string c0.head.name,kh,bS] aQ)) (bh dw ab 4 css) (bh bS ab 4 (css++[cs7])) (bO (N::Ls).flatten) M (.blk b8 (.cells cs7.toArray ab)) true true false false))[4+(bO (N::Ls).flatten).length+(bO M).length]?=some (.blk b8 (.cells cs7.toArray ab)):=by
    have e4:4+(bO (N::Ls).flatten).length+(bO M).length=((bO (N::Ls).flatten).length+(bO M).length)+1+1+1+1:=by omega
    rw [e4]
    simp only [bv,List.getElem?_cons_succ]
    rw [List.getElem?_append_right (by omega),Nat.add_sub_cancel_left,List.getElem?_append_right (Nat.le_refl _),Nat.sub_self]; rfl
   refine fy hI 3 cs7 bK (by omega) rfl (by rw [hT.length]) (m:=1) (o:=0) ?_ hT.one (by omega) (by omega) fun v' w_ hI=>?_
   ·intro i u hi
    rw [hI.cellL hblk,Nat.zero_add]
    simpa using hi
   rw [fS] at hI
   have k9:=fun (_:aw D 9 9=true)=>gi
   have k11:=fun (_:aw D 9 11=true)=>(rfl:aw D 9 9=true)
   have hI:Inv w [] (bv (.blk b1 (.cells #[.int .i64 c0.head.kind,.int .i64 c0.head.n,.string c0.head.name,kv,.slice (some ⟨b,o,none⟩) c0.body.length cap] aQ)) (.blk b2 (.cells #[.int .i64 0,.int .i64 0,.string ⟨#[]⟩,.slice none 0 0,.slice none 0 0] aQ)) (.blk b3 (.cells #[.int .i64 c0.head.kind,.int .i64 c0.head.n,.string c0.head.name,kh,dw] aQ)) (.blk b3 (.cells #[.int .i64 c0.head.kind,.int .i64 c0.head.n,.string c0.head.name,kh,v'] aQ)) (bh dw ab 4 css) (bh v' ab 4 (css++[cs7])) (bO (N::Ls).flatten) M (.blk b8 (.cells cs7.toArray ab)) (D 7) (D 8) true (D 11)) S w_:=by
    rw [m7,gi,f11]
    exact hI
   exact ⟨aA,aB,aC,az,av,aE,aD,aH,aK,fun _=>by first|assumption|trivial,ag,ai,⟨M,cs7,b8,e7,e8,k8,k9,k11,k1,hI⟩⟩
  ·intro D aY b0 il wv DJ yE HN Jw Kw MK MM bZ bS bV cf cd cC cc bY du dw dF w_
   rintro ⟨aA,aB,aC,az,av,aE,aD,aH,aK,aP,ag,ai,⟨M,cs7,b8,e7,e8,k8,k9,k11,k1,hI⟩⟩
   refine bi bq ?_
   exact ⟨aA,aB,aC,az,av,aE,aD,aH,aK,aP,fun _=>rfl,ai,⟨M,cs7,b8,e7,e8,k8,k9,k11,k1,hI⟩⟩
  ·intro D aY gv fl Kg DW mj Ee yD zv D9 JS lu n6 KF bZ bS bV cf cd cC cc bY du dw dF w_
   rintro ⟨aA,aB,aC,az,av,aE,aD,aH,aK,aP,ag,ai,⟨M,cs7,b8,e7,e8,k8,k9,k11,k1,hI⟩⟩
   obtain rfl:=ag gv
   have Mt:=aP fl
   rw [lu,n6,fl,aY] at hI
   obtain ⟨va,vn,vc,hv9⟩:=Inv.rowSlice hI 3 rfl
   refine fg hI 2 (n:=1) (by rw [hv9]; rfl) (by decide +kernel) rfl (by simp) (by rw [hv9]; simp [Value.cells,Value.oneCell']) fun w_ hI=>?_
   have hcl9:Value.cells bS=#[bS]:=by rw [hv9]; rfl
   rw [hcl9] at hI
   have k1:=fun (_:aw D 11 11=true)=>mj
   have k11:=fun (_:aw D 11 11=true)=>fl
   have hI:Inv w [] (bv (.blk b1 (.cells #[.int .i64 c0.head.kind,.int .i64 c0.head.n,.string c0.head.name,kv,.slice (some ⟨b,o,none⟩) c0.body.length cap] aQ)) (.blk b2 (.cells #[.int .i64 0,.int .i64 0,.string ⟨#[]⟩,.slice none 0 0,.slice none 0 0] aQ)) (.blk b3 (.cells #[.int .i64 c0.head.kind,.int .i64 c0.head.n,.string c0.head.name,kh,kvc] aQ)) (.blk b3 (.cells #[.int .i64 c0.head.kind,.int .i64 c0.head.n,.string c0.head.name,kh,bS] aQ)) (bh kvc ab 4 css) (bh bS ab 4 (css++[cs7])) (bO (N::Ls).flatten) M (.blk b8 (.cells cs7.toArray ab)) (D 7) (D 8) (D 9) true) S w_:=by
    rw [lu,n6,fl]
    exact hI
   exact ⟨aA,aB,aC,az,av,aE,aD,aH,aK,aP,ag,fun _=>trivial,⟨M,cs7,b8,e7,e8,k8,k9,k11,k1,hI⟩⟩
  intro D fk fw iK gI fK fL fH fC fB fE fM fJ bZ bS bV cf cd cC cc bY du dw dF w_
  rintro ⟨aA,aB,aC,az,av,aE,aD,aH,aK,aP,ag,ai,⟨M,cs7,b8,e7,e8,k8,k9,k11,k1,hI⟩⟩
  obtain rfl:=ag fw
  have Mt:=aP iK
  have Mg:=aK gI
  have Kh:=aH fK
  obtain rfl:=aD fL
  obtain rfl:=aE fH
  obtain rfl:=av fC
  obtain rfl:=az fB
  obtain rfl:=aC fE
  obtain rfl:=aB fM
  obtain rfl:=aA fJ
  clear aA aB aC az av aE aD aH aK aP ag ai
  obtain ⟨_,hT⟩:=e7 fK
  rw [fK,gI,iK,fk] at hI
  refine bN (by omega) ?_
  refine ⟨⟨j+1,bS,Ls++[M],css++[cs7],hj',rfl,?_,?_⟩,by simp [intOf]; omega⟩
  ·rw [List.take_succ_eq_append_getElem hj']
   exact hg.snoc hT hT.length
  ·rw [<- List.cons_append,List.flatten_append,e9]
   simp only [List.flatten_cons,List.flatten_nil,List.append_nil]
   refine hI.sub ?_
   simp only [bv,List.flatten_cons]
   rw [<- List.append_assoc]
   exact (((List.sublist_append_left _ _).cons_cons _).cons_cons _).cons_cons _ |>.cons_cons _
 ·have:j=c0.body.length:=by omega
  subst this
  rw [List.take_length] at hg
  obtain ⟨va,vn,vc,hvk⟩:=hI.rowSlice 3 rfl
  have hv1:kvc.oneCell'=true:=by rw [hvk]; rfl
  have o1:kh.oneCell'=true:=hT1.one kh (by simp)
  refine bb hI 2 bM rfl rfl ?_
  refine bg hI 1 rfl bM rfl rfl ?_ fun w' hI=>?_
  ·intro u hu
   have hu':u∈([.int .i64 c0.head.kind,.int .i64 c0.head.n,.string c0.head.name,kh,kvc]:List Value):=hu
   simp at hu'
   rcases hu' with rfl|rfl|rfl|rfl|rfl <;> first|rfl|exact o1|exact hv1
  refine cG hI 1 bM rfl rfl ?_
  have hI:Inv w [] (bh kvc ab 4 css::bO (N::Ls).flatten) S w':=hI.sub (List.sublist_append_right [_,_,_] _)
  rw [List.flatten_cons,e9] at hI
  have hI:=hI.perm (M:=bO N++(bh kvc ab 4 css::bO Ls.flatten)) (List.perm_middle)
  obtain ⟨L,hT,hI⟩:=Inv.rowTree hI hg
  exact ⟨_,_,_,rfl,hI,Ext.refl _ _ _,rfl,_,N++L,rfl,by rw [e9],_,kvc,N,L,rfl,rfl,hT1,hT⟩
end

end Go.Proofs.YtemmhhdnlbmicaaGreat

/- append of a whole slice that is only read to a row of the function's own. -/
namespace Go.Proofs.YtemmhhdnlbmicaaGreat
open Go Go.RowKit
section
variable {P:Program} {w w0:World} {X:List Nat} {L:List Item} {S:aF} {K:Value->World->Prop}
theorem Jx (h:Inv w0 X L S w) {T ty e:TypeId} {k by_ n cp:Nat} {z v:Value} {cs:List Bool} {xs:List Value} {a:Option Addr} (i:Nat)
  (hT:nO P T=some (e,k,by_,z)) (hi:L[i]?=some (.row v e k n xs)) (hk:K v w) :
  Run P (aq .append #[T,T] ty cs [v,.slice a 0 cp]) w K:=by
 obtain ⟨hu,inf,hi',hz,hs,hb,hzs⟩:=ig hT
 have hown:=h.its _ (List.mem_of_getElem? hi)
 simp only [Item.holds] at hown
 refine Run.of (v:=v) (w':=w) ?_ hk
 rcases hown.2 with ⟨rfl,rfl⟩|⟨g,cap,cur,rfl,_,hg,hnc,hcm,hcs,ht⟩
 ·cases a <;> simp [aq,builtin,Builtin.append_,run_underlying hu,sizeOf,typeInfo,hi',Builtin.lenOf,Builtin.firstCells,loadCells,loadCellsFrom]
 ·cases a <;> simp [aq,builtin,Builtin.append_,run_underlying hu,sizeOf,typeInfo,hi',storeCells,hnc,Builtin.lenOf,Builtin.firstCells,loadCells,loadCellsFrom]
end

end Go.Proofs.YtemmhhdnlbmicaaGreat

/- Rows of clauses that are only read: grown, joined, copied. -/
namespace Go.Proofs.YtemmhhdnlbmicaaGreat
open Go Go.RowKit

structure Rows {α:Type} (k:Nat) (R:List Value->α->Prop) (css:List (List Value)) (ys:List α):Prop where
 hc:css.length=ys.length
 hk:∀ cs∈css,cs.length=k
 hR:∀ i (h:i<ys.length) (h1:i<css.length),R css[i] ys[i]
theorem Rows.nil {α:Type} (k:Nat) (R:List Value->α->Prop):Rows k R [] ([]:List α):=⟨rfl,by simp,fun i h=>by simp at h⟩
theorem Rows.snoc {α:Type} {k:Nat} {R:List Value->α->Prop} {css:List (List Value)} {ys:List α} (h:Rows k R css ys) {cs:List Value} {y:α} (hR:R cs y) (hl:cs.length=k):Rows k R (css++[cs]) (ys++[y]):=by
 refine ⟨by simp [h.hc],fun c hc=>?_,fun i h0 h2=>?_⟩
 ·rcases List.mem_append.1 hc with hc|hc
  ·exact h.hk c hc
  ·simp at hc; subst hc; exact hl
 ·have e2:=h.hc
  by_cases hi:i<ys.length
  ·rw [List.getElem_append_left (by omega),List.getElem_append_left hi]
   exact h.hR i hi (by omega)
  ·have:i=ys.length:=by simp at h0; omega
   subst this
   rw [List.getElem_append_right (by omega),List.getElem_append_right (by omega)]
   simp only [e2,Nat.sub_self,List.getElem_cons_zero]
   exact hR
theorem Rows.append {α:Type} {k:Nat} {R:List Value->α->Prop} {css css':List (List Value)} {ys ys':List α} (h:Rows k R css ys) (h':Rows k R css' ys'):Rows k R (css++css') (ys++ys'):=by
 have e:=h.hc
 have e':=h'.hc
 refine ⟨by simp [e,e'],fun c hc=>?_,fun i h0 h2=>?_⟩
 ·rcases List.mem_append.1 hc with hc|hc
  ·exact h.hk c hc
  ·exact h'.hk c hc
 ·by_cases hi:i<ys.length
  ·rw [List.getElem_append_left (by omega),List.getElem_append_left hi]
   exact h.hR i hi (by omega)
  ·have hi':i - css.length<ys'.length:=by simp at h0; omega
   rw [List.getElem_append_right (by omega),List.getElem_append_right (by omega)]
   have:=h'.hR (i - css.length) hi' (by omega)
   simpa only [e] using this
theorem RowRd.rows {α:Type} {S:aF} {v:Value} {e:TypeId} {k:Nat} {R:List Value->α->Prop} {css:List (List Value)} {ys:List α} (hr:Rows k R css ys) (h:RowRd S v e k css.length css.flatten):RdSl S k R v ys:=by
 obtain ⟨hl,h⟩:=h
 have hcy:=hr.hc
 rcases h with ⟨rfl,h0⟩|⟨g,cap,cur,rfl,hS,hnc,hcm,hcs,ht⟩
 ·have:ys=[]:=List.eq_nil_of_length_eq_zero (by omega)
  subst this
  exact ⟨none,0,rfl,Nat.le_refl _,Nat.zero_le _,.inl rfl⟩
 ·refine ⟨_,cap,by rw [hcy],by omega,hcm,.inr ⟨g,0,cur,e,(0,0),rfl,hS,fun i hi=>?_⟩⟩
  have:=jB k css i hr.hk (by omega)
  have hik:i * k+k<=css.length * k:=by rw [<- Nat.succ_mul]; exact Nat.mul_le_mul_right k (by omega)
  rw [<- ht,List.drop_take,List.take_take,Nat.min_eq_left (by omega)] at this
  rw [bw,Nat.zero_add,this]
  exact hr.hR i hi (by omega)
theorem jX {k:Nat}:∀ {css:List (List Value)},(∀ cs∈css,cs.length=k)->css.flatten.length=css.length * k
 | [],_=>by simp
 | c::css,h=>by
  have:=jX (css:=css) fun cs hc=>h cs (List.mem_cons_of_mem _ hc)
  rw [List.flatten_cons,List.length_append,h c (List.mem_cons_self ..),this,List.length_cons,Nat.succ_mul,Nat.add_comm]
section
variable {P:Program} {w w0:World} {X:List Nat} {L:List Item} {S:aF} {K:Value->World->Prop}
attribute [local irreducible] Run CondV ah be
/- append(row, other row...) -/
end
end Go.Proofs.YtemmhhdnlbmicaaGreat

/- Reslicing; a read slice joined to a row. -/
namespace Go.Proofs.YtemmhhdnlbmicaaGreat
open Go Go.RowKit

theorem gr {P:Program} {T e:TypeId} {k:Nat} (h:dy P T=some (e,k)):P.underlying T=some (.slice e)/\∃ i,P.info? e=some i/\i.size=k:=by
 unfold dy at h
 split at h
 ·rename_i e1 he
  rw [Option.map_eq_some_iff] at h
  obtain ⟨i,hi,hx⟩:=h
  simp only [Prod.mk.injEq] at hx
  obtain ⟨rfl,rfl⟩:=hx
  exact ⟨he,i,hi,rfl⟩
 ·cases h
section
variable {P:Program} {w:World} {K:Value->World->Prop}
attribute [local irreducible] Run
theorem oZ {n y:Nat} {code:BoundsCode} (h:n<=y):(Instr.sliceBound (.int .i64 n) y code).run P w=.ok n w:=by
 have h1:(0:Int)<=(n:Int)/\(n:Int)<=(y:Int):=by omega
 simp [Instr.sliceBound,asIntOf,h]
theorem Id {T ty e:TypeId} {k h len cap:Nat} {a:Option Addr} (hT:dy P T=some (e,k)) (hh:h<=cap) (hk:K (.slice (if cap=0 then a else a.map (·.add (0 * k))) h cap) w) :
  Run P (sOp (.slice T (.const (.slice a len cap)) none (some (.const (.int .i64 h))) none) ty) w K:=by
 obtain ⟨hu,i,hi,_⟩:=gr hT
 refine Run.of ?_ hk
 simp [sOp,execOp,ev0,evE,Instr.sliceAt,Instr.slice,Instr.sliceBounds,run_underlying hu,oZ hh,sizeOf,typeInfo,hi]
theorem yW {T ty e:TypeId} {k l len cap:Nat} {a:Option Addr} (hT:dy P T=some (e,k)) (hl:l<=len) (hk:K (.slice (if cap=l then a else a.map (·.add (l * k))) (len - l) (cap - l)) w) :
  Run P (sOp (.slice T (.const (.slice a len cap)) (some (.const (.int .i64 l))) none none) ty) w K:=by
 obtain ⟨hu,i,hi,hs⟩:=gr hT
 refine Run.of ?_ hk
 simp [sOp,execOp,ev0,evE,Instr.sliceAt,Instr.slice,Instr.sliceBounds,run_underlying hu,oZ hl,sizeOf,typeInfo,hi,hs]
end
theorem RdSl.to {α:Type} {S:aF} {k:Nat} {R:List Value->α->Prop} {a:Option Addr} {cap n h:Nat} {xs:List α} (hx:RdSl S k R (.slice a n cap) xs) (hh:h<=xs.length) :
  RdSl S k R (.slice (if cap=0 then a else a.map (·.add (0 * k))) h cap) (xs.take h):=by
 obtain ⟨a',cap',e,hl,hc,hx⟩:=hx
 simp only [Value.slice.injEq] at e
 obtain ⟨rfl,rfl,rfl⟩:=e
 have e1:(if cap=0 then a else a.map (·.add (0 * k)))=a:=by
  split
  ·rfl
  ·cases a <;> simp [Addr.add]
 rw [e1]
 have e2:h=(xs.take h).length:=by rw [List.length_take]; omega
 refine ⟨a,cap,by rw [<- e2],by omega,hc,?_⟩
 rcases hx with rfl|⟨b,o,c,E,fz,rfl,hS,hR⟩
 ·left; simp
 ·right
  refine ⟨b,o,c,E,fz,rfl,hS,fun i hi=>?_⟩
  rw [List.getElem_take]
  exact hR i (by omega)
theorem RdSl.from {α:Type} {S:aF} {k:Nat} {R:List Value->α->Prop} {a:Option Addr} {cap n l:Nat} {xs:List α} (hx:RdSl S k R (.slice a n cap) xs) (hl:l<=xs.length) :
  RdSl S k R (.slice (if cap=l then a else a.map (·.add (l * k))) (n - l) (cap - l)) (xs.drop l):=by
 obtain ⟨a',cap',e,hlc,hc,hx⟩:=hx
 simp only [Value.slice.injEq] at e
 obtain ⟨rfl,rfl,rfl⟩:=e
 refine ⟨_,cap - l,by rw [List.length_drop],by rw [List.length_drop]; omega,by omega,?_⟩
 by_cases hd:xs.drop l=[]
 ·exact .inl hd
 ·rcases hx with rfl|⟨b,o,c,E,fz,rfl,hS,hR⟩
  ·simp at hd
  ·right
   have hlt:l<xs.length:=by
    rcases Nat.lt_or_ge l xs.length with h|h
    ·exact h
    ·exact absurd (List.drop_eq_nil_of_le h) hd
   refine ⟨b,o+l * k,c,E,fz,?_,hS,fun i hi=>?_⟩
   ·rw [if_neg (by omega)]
    simp [Addr.add]
   ·rw [List.getElem_drop]
    have:=hR (l+i) (by simp at hi; omega)
    rwa [Nat.add_mul,<- Nat.add_assoc] at this
section
variable {P:Program} {w w0:World} {X:List Nat} {L:List Item} {S:aF} {K:Value->World->Prop}
attribute [local irreducible] Run CondV ah be
theorem JF {α:Type} {R:List Value->α->Prop} {xs:List α} {v:Value} {T ty e:TypeId} {k h:Nat} (hT:dy P T=some (e,k)) (hx:RdSl S k R v xs) (hh:h<=xs.length)
  (hk:∀ v',RdSl S k R v' (xs.take h)->K v' w):Run P (sOp (.slice T (.const v) none (some (.const (.int .i64 h))) none) ty) w K:=by
 obtain ⟨a,cap,rfl,hl,hc,hx'⟩:=id hx
 exact Id hT (by omega) (hk _ (hx.to hh))
theorem vf {α:Type} {R:List Value->α->Prop} {xs:List α} {v:Value} {T ty e:TypeId} {k l:Nat} (hT:dy P T=some (e,k)) (hx:RdSl S k R v xs) (hl:l<=xs.length)
  (hk:∀ v',RdSl S k R v' (xs.drop l)->K v' w):Run P (sOp (.slice T (.const v) (some (.const (.int .i64 l))) none none) ty) w K:=by
 obtain ⟨a,cap,rfl,hl',hc,hx'⟩:=id hx
 exact yW hT hl (hk _ (hx.from hl))
end
theorem RdSl.exact {α:Type} {S:aF} {k:Nat} {R:List Value->α->Prop} {v:Value} {ys:List α} (h:RdSl S k R v ys) (hk:∀ cs y,R cs y->cs.length=k) :
  ∃ ds:List {cs:List Value // cs.length=k},RdSl S k (fun cs d=>cs=d.val) v ds/\Rows k R (ds.map (·.val)) ys:=by
 obtain ⟨a,cap,rfl,hl,hc,hx⟩:=h
 rcases hx with rfl|⟨b,o,c,E,fz,rfl,hS,hR⟩
 ·exact ⟨[],⟨a,cap,rfl,hl,hc,.inl rfl⟩,Rows.nil _ _⟩
 ·refine ⟨List.ofFn fun i:Fin ys.length=>⟨bw c (o+i.val * k) k,hk _ _ (hR i.val i.isLt)⟩,⟨_,cap,by rw [List.length_ofFn],by rw [List.length_ofFn]; exact hl,hc,.inr ⟨b,o,c,E,fz,rfl,hS,fun i hi=>by simp⟩⟩,⟨by simp,fun cs hcs=>?_,fun i h1 h2=>?_⟩⟩
  ·obtain ⟨d,_,rfl⟩:=List.mem_map.1 hcs
   exact d.property
  ·simp only [List.getElem_map,List.getElem_ofFn]
   exact hR i h1
section
variable {P:Program} {w w0:World} {X:List Nat} {L:List Item} {S:aF} {K:Value->World->Prop}
attribute [local irreducible] Run CondV ah be
theorem gL {α:Type} {R:List Value->α->Prop} (h:Inv w0 X L S w) {T ty e:TypeId} {k by_:Nat} {z v u:Value} {cs:List Bool} {css:List (List Value)} {ys:List α} (i:Nat)
  (hT:nO P T=some (e,k,by_,z)) (hk0:0<k) (hi:L[i]?=some (bh v e k css)) (hr:RdSl S k R u ys) (hlen:∀ cs y,R cs y->cs.length=k) (h1:∀ cs y,R cs y->∀ c∈cs,c.oneCell'=true)
  (hfit:css.length+ys.length<=4294967296) (hby:by_<=32768) (hk:∀ v' w' css2,Rows k R css2 ys->Inv w0 X (L.set i (bh v' e k (css++css2))) S w'->K v' w') :
  Run P (aq .append #[T,T] ty cs [v,u]) w K:=by
 obtain ⟨ds,hd,hR⟩:=hr.exact hlen
 have hdl:ds.length=ys.length:=by have:=hR.hc; simpa using this
 have hone:∀ d∈ds,∀ c∈d.val,c.oneCell'=true:=by
  intro d hd' c hc
  obtain ⟨j,hj,rfl⟩:=List.mem_iff_getElem.1 hd'
  have:=hR.hR j (by omega) (by simpa using hj)
  simp only [List.getElem_map] at this
  exact h1 _ _ this c hc
 obtain ⟨a,cap,rfl,hl',hc',hx⟩:=id hd
 have e1:∀ v',Item.row v' e k (css.length+ds.length) (css.flatten++(ds.map (·.val)).flatten)=bh v' e k (css++ds.map (·.val)):=fun v'=>by simp [bh]
 rcases hx with rfl|⟨b,o,c,E,fz,rfl,hS,hel⟩
 ·refine Jx h i hT hi (hk v w [] (by simpa using hR) ?_)
  have:L.set i (bh v e k (css++[]))=L:=by
   obtain ⟨hlt,e'⟩:=List.getElem?_eq_some_iff.1 hi
   rw [List.append_nil,<- e',List.set_getElem_self]
  rw [this]
  exact h
 ·have hfl:(ds.map (·.val)).flatten.length=ds.length * k:=by
   rw [jX (k:=k) (fun cs hcs=>by obtain ⟨d,_,rfl⟩:=List.mem_map.1 hcs; exact d.property),List.length_map]
  refine fy h i (ds.map (·.val)).flatten hT hk0 hi hfl ?_ ?_ (by omega) hby fun v' w' hI=>hk _ _ _ hR ?_
  ·intro j u hj
   have hj':j<ds.length * k:=by
    rw [<- hfl]
    exact (List.getElem?_eq_some_iff.1 hj).1
   have hq:j / k<ds.length:=(Nat.div_lt_iff_lt_mul hk0).2 hj'
   have hcell:=hel (j / k) hq
   have hflat:=jB k (ds.map (·.val)) (j / k) (fun cs hcs=>by obtain ⟨d,_,rfl⟩:=List.mem_map.1 hcs; exact d.property) (by simpa using hq)
   have hdm:=Nat.div_add_mod j k
   rw [Nat.mul_comm] at hdm
   rw [h.cellS hS]
   have e2:(ds.map (·.val)).flatten[j]?=(ds[j / k].val)[j % k]?:=by
    rw [List.getElem_map] at hflat
    rw [<- hflat,List.getElem?_take,if_pos (Nat.mod_lt _ hk0),List.getElem?_drop]
    congr 1
    omega
   rw [e2] at hj
   have:=bn hcell (j % k) u hj
   rw [<- this]
   congr 1
   omega
  ·intro u hu
   obtain ⟨cs,hcs,hu⟩:=List.mem_flatten.1 hu
   obtain ⟨d,hd',rfl⟩:=List.mem_map.1 hcs
   exact hone d hd' u hu
  ·rw [<- e1]
   exact hI
end

end Go.Proofs.YtemmhhdnlbmicaaGreat

/- Plain functions: texts of terms and clauses, and how texts are read. Fuel runs out: none. -/
namespace Go.Proofs.YtemmhhdnlbmicaaGreat
open Go Go.RowKit

abbrev Bs:=List UInt8
abbrev bs (s:ByteArray):Bs:=s.data.toList
abbrev st (l:Bs):ByteArray:=⟨l.toArray⟩
theorem BK (l:Bs):bs (st l)=l:=by simp [bs]
theorem mf (l:Bs):(st l).size=l.length:=by simp [ByteArray.size]

def sgn (s:Bs) (i:Nat) (c:Nat):Bool:=match s[i]? with
 | some b=>decide (b.toNat=c)
 | none=>false
def btw (s:Bs) (i:Nat) (a b:Nat):Bool:=match s[i]? with
 | some x=>decide (a<=x.toNat) && decide (x.toNat<=b)
 | none=>false
def sml (s:Bs) (i:Nat):Bool:=btw s i 97 122
def dig (s:Bs) (i:Nat):Bool:=btw s i 48 57
def upp (s:Bs) (i:Nat):Bool:=btw s i 65 90
def cut (s:Bs) (a b:Nat):Bs:=(s.take b).drop a

def wD (s:Bs):Nat->Nat->Nat
 | 0,e=>e
 | n+1,e=>if sml s e=true then wD s n (e+1) else e
def hH (s:Bs) (i:Nat):List ByteArray->Bs->Bs
 | [],b=>b
 | x::l,b=>hH s i l (if decide (i+x.size<=s.length)=true/\cut s i (i+x.size)=bs x/\b.length<x.size then bs x else b)
def s3 (s:Bs) (i:Nat):Option (Bs × Nat):=
 let e:=wD s (s.length - i) i
 if i+6<e then none else if i<e then some (cut s i e,e) else
  let b:=hH s i signs []
  if b=[] then none else some (b,i+b.length)
def pu (s:Bs):Nat->Nat->Nat
 | 0,e=>e
 | n+1,e=>if dig s e=true then pu s n (e+1) else e
def AL:Bs->Nat->Nat
 | [],n=>n
 | b::l,n=>AL l (n * 10+(b.toNat - 48))
def Kj (s:Bs) (i:Nat):Option (T × Nat):=
 let from_:=if sgn s i 45=true then i+1 else i
 let e:=pu s 4 from_
 let d:=cut s from_ e
 let n:=AL d 0
 if d=[] ∨ (sgn d 0 48=true/\1<d.length) ∨ (i<from_/\n=0) ∨ 999<n then none
 else some (.mk 2 (if i<from_ then -(n:Int) else n) emptyB [],e)
def Gg (name:Bs) (kids:List T):T:=.mk 3 0 (st name) kids
def MN:T:=Gg [91,93] []
def FZ (a b:T):T:=Gg [46] [a,b]
def hZ:List T->T->T
 | [],t=>t
 | a::l,t=>FZ a (hZ l t)
def opF (s:Bs) (i:Nat):Option (Bs × Nat):=
 let from_:=if sgn s i 32=true then i+1 else i
 if s.length<=from_ then none else match s3 s from_ with
  | none=>none
  | some (name,next)=>
   let word:=decide (name=[105,115]) || decide (name=[109,111,100])
   if dg (st name)=0 ∨ word≠decide (i<from_) ∨ (word=true/\sgn s next 32=false) then none
   else some (name,if word=true then next+1 else next)
mutual
def iE:Nat->Bs->Nat->Nat->Nat->Option (T × Nat)
 | 0,_,_,_,_=>none
 | f+1,s,i,d,0=>qJ f s i d
 | f+1,s,i,d,l+1=>match iE f s i d l with
  | none=>none
  | some (t,n)=>FI f s n d l t
def FI:Nat->Bs->Nat->Nat->Nat->T->Option (T × Nat)
 | 0,_,_,_,_,_=>none
 | f+1,s,i,d,l,t=>match opF s i with
  | none=>some (t,i)
  | some (name,after)=>if dg (st name)=((l+1:Nat):Int) then match iE f s after d l with
    | none=>none
    | some (r,e)=>if l=2 then some (Gg name [t,r],e) else FI f s e d l (Gg name [t,r])
   else some (t,i)
def qJ:Nat->Bs->Nat->Nat->Option (T × Nat)
 | 0,_,_,_=>none
 | f+1,s,i,d=>if d=0 ∨ s.length<=i then none else if sgn s i 40=true then match iE f s (i+1) d 3 with
    | none=>none
    | some (t,n)=>if sgn s n 41=true then some (t,n+1) else none
  else if sgn s i 91=true/\sgn s (i+1) 93=false then match gR f s (i+1) (d - 1) 93 124 [] with
    | none=>none
    | some (ts,n)=>if sgn s n 93=true then some (hZ ts MN,n+1) else match iE f s (n+1) (d - 1) 3 with
     | none=>none
     | some (t,e)=>if sgn s e 93=true then some (hZ ts t,e+1) else none
  else if upp s i=true then some (.mk 1 ((s.getD i 0).toNat - 65) emptyB [],i+1)
  else if dig s i=true ∨ (sgn s i 45=true/\dig s (i+1)=true) then Kj s i
  else match s3 s i with
   | none=>none
   | some (name,n)=>if sgn s n 40=false then some (Gg name [],n) else match gR f s (n+1) (d - 1) 41 41 [] with
    | none=>none
    | some (ts,e)=>some (Gg name ts,e+1)
def gR:Nat->Bs->Nat->Nat->Nat->Nat->List T->Option (List T × Nat)
 | 0,_,_,_,_,_,_=>none
 | f+1,s,i,d,e,o,acc=>match iE f s i d 3 with
  | none=>none
  | some (t,n)=>if sgn s n e=true ∨ sgn s n o=true then some (acc++[t],n) else if sgn s n 44=true then gR f s (n+1) d e o (acc++[t]) else none
end

/- texts -/
def lX (t:T):Bool:=decide (t.kind=3) && (decide (t.kids.length=2) && decide (0<dg t.name))
def z8 (t:T):Bool:=decide (t.kind=3) && (decide (t.name=st [46]) && decide (t.kids.length=2))
def KD (t:T):Bool:=decide (t.kind=3) && (decide (t.name=st [91,93]) && decide (t.kids.length=0))
def wh (t:T):Bool:=decide (t.kind=3) && (decide (t.kids.length=0) && decide (0<dg t.name))
def DM (s:Bs):Bool:=sml s 0 || (dig s 0 || (upp s 0 || (sgn s 0 91 || sgn s 0 40)))
def gW (n:Bs):Bs:=if n=[105,115] ∨ n=[109,111,100] then 32::(n++[32]) else n
def Ay:Nat->Nat->Bs->Option Bs
 | 0,_,_=>none
 | f+1,n,out=>if 9<n then Ay f (n / 10) (UInt8.ofNat (48+n % 10)::out) else some (UInt8.ofNat (48+n)::out)
def MD (n:Int):Option Bs:=if n<0 then (Ay 20 (-n).toNat []).map fun l=>45::l else Ay 20 n.toNat []
def Ki (t:T):Option Bs:=if t.kind=1 then (if 0<=t.n/\t.n<=25 then some [UInt8.ofNat (65+t.n.toNat)] else none)
 else if t.kind=2 then (if -999<=t.n/\t.n<=999 then MD t.n else none) else if t.kids.length=0 then some (bs t.name) else none
mutual
def Dv:Nat->T->Option Bs
 | 0,_=>none
 | f+1,t=>if z8 t=true then Ce f t [] else if lX t=true then match t.kids with
   | [a,b]=>match IE f a (if dg t.name=3 then 2 else dg t.name),CR f b (dg t.name - 1) with
    | some x,some y=>some (x++gW (bs t.name)++y)
    | _,_=>none
   | _=>none
  else if t.kind=3/\0<t.kids.length then match mG f t.kids [] with
   | some x=>some (bs t.name++[40]++x++[41])
   | none=>none
  else Ki t
def Ce:Nat->T->List T->Option Bs
 | 0,_,_=>none
 | f+1,t,items=>if z8 t=true then match t.kids with
   | [a,b]=>Ce f b (items++[a])
   | _=>none
  else match mG f items [] with
   | none=>none
   | some x=>if KD t=true then some ([91]++x++[93]) else match Dv f t with
    | none=>none
    | some y=>some ([91]++x++[124]++y++[93])
def mG:Nat->List T->Bs->Option Bs
 | 0,_,_=>none
 | _+1,[],out=>some out
 | f+1,t::l,out=>match Dv f t with
  | none=>none
  | some x=>mG f l (out++x++(if l=[] then [] else [44]))
def oq:Nat->T->Int->Option Bs
 | 0,_,_=>none
 | f+1,t,l=>match Dv f t with
  | none=>none
  | some x=>some (if lX t=true/\l<dg t.name then [40]++x++[41] else x)
def IE:Nat->T->Int->Option Bs
 | 0,_,_=>none
 | f+1,t,l=>if wh t=true then match Dv f t with
   | none=>none
   | some x=>some ([40]++x++[41])
  else oq f t l
def CR:Nat->T->Int->Option Bs
 | 0,_,_=>none
 | f+1,t,l=>match oq f t l with
  | none=>none
  | some x=>if x=[] then none else some (if wh t=true ∨ DM x=false then [40]++x++[41] else x)
end
def vr (f:Nat):List T->Bool->Bs->Option Bs
 | [],_,out=>some out
 | t::l,first,out=>match Dv f t with
  | none=>none
  | some x=>vr f l false (out++(if first=true then [58,45] else [44])++x)
def Je (f:Nat) (c:C):Option Bs:=match Dv f c.head with
 | none=>none
 | some x=>match vr f c.body true x with
  | none=>none
  | some y=>some (y++[46])

/- clauses and programs -/
def qQ (f:Nat):Nat->Bs->Nat->List T->Option (List T × Nat)
 | 0,_,_,_=>none
 | k+1,s,i,acc=>if 6<acc.length then none else match iE f s i 30 3 with
  | none=>none
  | some (t,n)=>if sgn s n 44=true then qQ f k s (n+1) (acc++[t]) else some (acc++[t],n)
def JY (f:Nat) (s:Bs) (c:C) (n:Nat):Option C:=
 if n+1=s.length/\sgn s n 46=true/\dC c=true/\wC c<=200/\Je f c=some s then some c else none
def rW (f:Nat) (s:Bs):Option C:=if 1000<s.length then none else match iE f s 0 30 3 with
 | none=>none
 | some (h,n)=>if sgn s n 58=true/\sgn s (n+1) 45=true then match qQ f 8 s (n+2) [] with
   | none=>none
   | some (b,n2)=>JY f s ⟨h,b⟩ n2
  else JY f s ⟨h,[]⟩ n
def AV (s:Bs) (c:Nat):Nat->Nat->Nat->List Bs->List Bs
 | 0,i,from_,acc=>acc++[cut s from_ i]
 | n+1,i,from_,acc=>if sgn s i c=true then AV s c n (i+1) (i+1) (acc++[cut s from_ i]) else AV s c n (i+1) from_ acc
def Lp (s:Bs):List Bs:=AV s 10 s.length 0 0 []
def jO (f:Nat):List Bs->List C->Option (List C)
 | [],acc=>some acc
 | l::ls,acc=>match rW f l with
  | none=>none
  | some c=>jO f ls (acc++[c])
def IK (f:Nat) (s:Bs):Option (List C):=
 let ls:=Lp s
 if 21<ls.length ∨ ls.getLast?≠some [] then none else jO f ls.dropLast []
def Lu (s:Bs):Bool:=match IK 60 s with
 | some p=>decide (0<p.length) && (decide (p.length<=8) && p.all fun c=>dC c && decide (wC c<=200))
 | none=>false
end Go.Proofs.YtemmhhdnlbmicaaGreat

/- More rules: arithmetic, conversions, texts joined and cut. -/
namespace Go.Proofs.YtemmhhdnlbmicaaGreat
open Go Go.RowKit
section
variable {P:Program} {w w0:World} {X:List Nat} {L:List Item} {S:aF} {K:Value->World->Prop}
theorem yG {T:TypeId} {cx cy:Bool} {k:IntKind} {a b:Int} (h:a<b) (hk:K (.bool true) w):Run P (ar .lss T cx cy (.int k a) (.int k b)) w K:=by
 refine bW ?_
 rw [decide_eq_true h]
 exact hk
theorem fi {T:TypeId} {cx cy:Bool} {k:IntKind} {a b:Int} (h:¬ (a<b)) (hk:K (.bool false) w):Run P (ar .lss T cx cy (.int k a) (.int k b)) w K:=by
 refine bW ?_
 rw [decide_eq_false h]
 exact hk
theorem Ds {T:TypeId} {cx cy:Bool} {k:IntKind} {a b:Int} (h:a<=b) (hk:K (.bool true) w):Run P (ar .leq T cx cy (.int k a) (.int k b)) w K:=by
 refine fX ?_
 rw [decide_eq_true h]
 exact hk
theorem Kp {T:TypeId} {cx cy:Bool} {k:IntKind} {a b:Int} (h:¬ (a<=b)) (hk:K (.bool false) w):Run P (ar .leq T cx cy (.int k a) (.int k b)) w K:=by
 refine fX ?_
 rw [decide_eq_false h]
 exact hk
theorem H8 {T:TypeId} {cx cy:Bool} {k:IntKind} {a b:Int} (h:b<a) (hk:K (.bool true) w):Run P (ar .gtr T cx cy (.int k a) (.int k b)) w K:=by
 refine eh ?_
 rw [decide_eq_true h]
 exact hk
theorem kW {T:TypeId} {cx cy:Bool} {k:IntKind} {a b:Int} (h:¬ (b<a)) (hk:K (.bool false) w):Run P (ar .gtr T cx cy (.int k a) (.int k b)) w K:=by
 refine eh ?_
 rw [decide_eq_false h]
 exact hk
theorem l7 {T:TypeId} {cx cy:Bool} {k:IntKind} {a b:Int} (h:b<=a) (hk:K (.bool true) w):Run P (ar .geq T cx cy (.int k a) (.int k b)) w K:=by
 refine mw ?_
 rw [decide_eq_true h]
 exact hk
theorem uQ {T:TypeId} {cx cy:Bool} {k:IntKind} {a b:Int} (h:¬ (b<=a)) (hk:K (.bool false) w):Run P (ar .geq T cx cy (.int k a) (.int k b)) w K:=by
 refine mw ?_
 rw [decide_eq_false h]
 exact hk
theorem fW {T:TypeId} {cx cy:Bool} {k:IntKind} {a b:Int} (h:a=b) (hk:K (.bool true) w):Run P (ar .eql T cx cy (.int k a) (.int k b)) w K:=by
 refine bR ?_
 rw [decide_eq_true h]
 exact hk
theorem eY {T:TypeId} {cx cy:Bool} {k:IntKind} {a b:Int} (h:¬ (a=b)) (hk:K (.bool false) w):Run P (ar .eql T cx cy (.int k a) (.int k b)) w K:=by
 refine bR ?_
 rw [decide_eq_false h]
 exact hk
theorem BF {T:TypeId} {cx cy:Bool} {a b:Int} (hr:-9223372036854775808<=a * b/\a * b<=9223372036854775807) (hk:K (.int .i64 (a * b)) w):Run P (ar .mul T cx cy (.int .i64 a) (.int .i64 b)) w K:=
 Run.of (by simp [ar,dG,binOp,Op.intArith,IntWalk.i64_in _ hr]) hk
theorem Mp {T:TypeId} {cx cy:Bool} {a b:Nat} (hb:0<b) (ha:a<=9223372036854775807) (hk:K (.int .i64 ((a / b:Nat):Int)) w):Run P (ar .quo T cx cy (.int .i64 (a:Int)) (.int .i64 (b:Int))) w K:=by
 refine Run.of ?_ hk
 have h0:¬ ((b:Int)=0):=by omega
 have h1:IntKind.i64.wrap ((a:Int).tdiv b)=((a / b:Nat):Int):=by
  rw [IntWalk.i64_quo _ _ (by omega)]; rfl
 simp only [ar,dG,binOp,Op.intDiv,Sem.run_bind,Result.andThen_ok,if_neg h0,Sem.run_pure]
 exact congrArg (fun v=>Result.ok (Next.value (.int .i64 v)) w) h1
theorem CM {T:TypeId} {cx cy:Bool} {a b:Nat} (hb:0<b) (hk:K (.int .i64 ((a % b:Nat):Int)) w):Run P (ar .rem T cx cy (.int .i64 (a:Int)) (.int .i64 (b:Int))) w K:=by
 refine Run.of ?_ hk
 have h1:(a:Int).tmod b=((a % b:Nat):Int):=by
  rw [IntWalk.rem_in _ _ (by omega)]; rfl
 have h0:¬ ((b:Int)=0):=by omega
 simp only [ar,dG,binOp,Op.intDiv,Sem.run_bind,Result.andThen_ok,if_neg h0,Sem.run_pure]
 exact congrArg (fun v=>Result.ok (Next.value (.int .i64 v)) w) h1
theorem Ml {T:TypeId} {cx cy:Bool} {a b:Nat} (ha:a<4611686018427387904) (hb:b<4611686018427387904) (hk:K (.int .i64 ((a ^^^ b:Nat):Int)) w):Run P (ar .xor T cx cy (.int .i64 (a:Int)) (.int .i64 (b:Int))) w K:=by
 refine Run.of ?_ hk
 have hx:a ^^^ b<2 ^ 62:=Nat.xor_lt_two_pow (by simpa using ha) (by simpa using hb)
 have e1:(BitVec.ofInt 64 (a:Int)).toNat=a:=by rw [BitVec.toNat_ofInt]; omega
 have e2:(BitVec.ofInt 64 (b:Int)).toNat=b:=by rw [BitVec.toNat_ofInt]; omega
 have h1:IntKind.i64.wrap ((BitVec.ofInt 64 (a:Int) ^^^ BitVec.ofInt 64 (b:Int)).toNat:Int)=((a ^^^ b:Nat):Int):=by
  rw [BitVec.toNat_xor,e1,e2]
  exact IntWalk.i64_in _ (by omega)
 simp only [ar,dG,binOp,Op.intBits,Sem.run_bind,Result.andThen_ok,Sem.run_pure]
 exact congrArg (fun v=>Result.ok (Next.value (.int .i64 v)) w) h1
theorem Mi {T:TypeId} {cx cy:Bool} {k:IntKind} {a b c:Int} (hr:k.wrap (a+b)=c) (hk:K (.int k c) w):Run P (ar .add T cx cy (.int k a) (.int k b)) w K:=
 Run.of (by simp [ar,dG,binOp,Op.intArith,hr]) hk
theorem KI {T:TypeId} {cx cy:Bool} {k:IntKind} {a b c:Int} (hr:k.wrap (a - b)=c) (hk:K (.int k c) w):Run P (ar .sub T cx cy (.int k a) (.int k b)) w K:=
 Run.of (by simp [ar,dG,binOp,Op.intArith,hr]) hk
theorem nw {src dst ty:TypeId} {k k':IntKind} {n m:Int} {d:TypeDesc} (hs:P.underlying src=some d) (hd:P.underlying dst=some (.int k')) (hr:k'.wrap n=m) (hk:K (.int k' m) w) :
  Run P (sOp (.convert src dst (.const (.int k n))) ty) w K:=by
 refine Run.of ?_ hk
 simp [sOp,execOp,ev0,evE,convert,run_underlying hs,run_underlying hd,Conv.intToInt,hr]
theorem Md {T ty:TypeId} {n:Int} (hr:-9223372036854775808<=-n/\-n<=9223372036854775807) (hk:K (.int .i64 (-n)) w):Run P (sOp (.unOp .neg T (.const (.int .i64 n))) ty) w K:=
 Run.of (by simp [sOp,execOp,ev0,evE,Op.unary,Op.intArith,Int.zero_sub,IntWalk.i64_in _ hr]) hk
theorem ML (a b:Bs):st a++st b=st (a++b):=by
 apply ByteArray.ext
 simp [st]
theorem d3 {T:TypeId} {cx cy:Bool} {a b:Bs} (hl:a.length+b.length<=9223372036854775807) (hk:K (.string (st (a++b))) w):Run P (ar .add T cx cy (.string (st a)) (.string (st b))) w K:=by
 refine Run.of ?_ hk
 have h1:¬ (9223372036854775807<(((st a).size+(st b).size:Nat):Int)):=by rw [mf,mf]; omega
 have h2:IntKind.i64.max=9223372036854775807:=by decide
 simp only [ar,binOp,Op.stringOp,Sem.run_bind,iy,Result.andThen_ok,gt_iff_lt,h2,if_neg h1,Sem.run_pure,ML]
theorem Mm (s:Bs) (a b:Nat):(st s).extract a b=st (cut s a b):=by
 apply ByteArray.ext
 apply Array.toList_inj.1
 simp [cut,ByteArray.data_extract,List.drop_take]
theorem y3 {T ty:TypeId} {s:Bs} {a b:Nat} (hu:P.underlying T=some .string) (hab:a<=b) (hb:b<=s.length) (hk:K (.string (st (cut s a b))) w) :
  Run P (sOp (.slice T (.const (.string (st s))) (some (.const (.int .i64 a))) (some (.const (.int .i64 b))) none) ty) w K:=by
 refine Run.of ?_ hk
 have hb':b<=(st s).size:=by rw [mf]; exact hb
 simp [sOp,execOp,ev0,evE,Instr.sliceAt,Instr.slice,Instr.sliceBounds,run_underlying hu,oZ hab,oZ hb',Mm]
/- a byte out of a text -/
theorem eM {T ty:TypeId} {s:Bs} {i:Nat} (hu:P.underlying T=some .string) (hi:i<s.length) (hk:K (.int .u8 s[i].toNat) w) :
  Run P (sOp (.index T (.const (.string (st s))) (.const (.int .i64 i))) ty) w K:=by
 have hi':i<(st s).size:=by rw [mf]; exact hi
 refine jy hu hi' ?_
 have:(st s)[i]=s[i]:=by simp [st,ByteArray.getElem_eq_getElem_data]
 rw [this]
 exact hk
theorem fP {T ty:TypeId} {cs:List Bool} {s:Bs} (hu:P.underlying T=some .string) (hk:K (.int .i64 s.length) w):Run P (aq .len #[T] ty cs [.string (st s)]) w K:=by
 refine jz hu ?_
 rw [mf]
 exact hk
theorem xS {T:TypeId} {cx cy:Bool} {a b:Bs} (hk:K (.bool (decide (a=b))) w):Run P (ar .eql T cx cy (.string (st a)) (.string (st b))) w K:=by
 refine cN ?_
 have:decide (st a=st b)=decide (a=b):=by
  rw [decide_eq_decide]
  exact ⟨fun h=>by rw [<- BK a,h,BK],fun h=>by rw [h]⟩
 rw [this]
 exact hk
theorem ID {T:TypeId} {cx cy:Bool} {a b:Bs} (hk:K (.bool (!decide (a=b))) w):Run P (ar .neq T cx cy (.string (st a)) (.string (st b))) w K:=by
 refine uf ?_
 have:decide (st a=st b)=decide (a=b):=by
  rw [decide_eq_decide]
  exact ⟨fun h=>by rw [<- BK a,h,BK],fun h=>by rw [h]⟩
 rw [this]
 exact hk
/- string([]byte{x}) -/
theorem z5 (h:Inv w0 X L S w) {T T' D ty e:TypeId} {by_:Nat} {z:Value} {n:Nat} (hT:nO P T=some (e,1,by_,z)) (he:P.underlying T'=some (.slice e)) (hb:P.underlying e=some (.int .u8)) (hD:P.underlying D=some .string)
  (hk:∀ w',Inv w0 X L S w'->K (.string (st [UInt8.ofNat n])) w') :
  Run P (aS T 1 [(0,.int .u8 (n:Int))]) w fun u w'=>Run P (sOp (.convert T' D (.const u)) ty) w' K:=by
 refine eN h hT rfl (by omega) (by omega) fun b w' hI=>?_
 have hi:(L++[Item.blk b (.cells (Value.int .u8 (n:Int)).cells e)])[L.length]?=some (.blk b (.cells (Value.int .u8 (n:Int)).cells e)):=by
  rw [List.getElem?_append_right (Nat.le_refl _),Nat.sub_self]; rfl
 have hc:w'.cell? ⟨b,0,none⟩=some (.int .u8 (n:Int)):=by rw [hI.cellL hi]; rfl
 have hl:=run_loadCells_list (P:=P) (w:=w') ⟨b,0,none⟩ [.int .u8 (n:Int)] (fun j v hj=>by
  match j with
  | 0=>simp only [List.getElem?_cons_zero,Option.some.injEq] at hj; subst hj; rw [fY]; exact hc
  | j+1=>simp at hj)
 simp only [List.length_cons,List.length_nil] at hl
 refine Run.of (w':=w') ?_ (hk _ (hI.sub (List.sublist_append_left _ _)))
 simp [sOp,execOp,ev0,evE,convert,run_underlying he,run_underlying hb,run_underlying hD,Conv.bytesToString,hl,st]
 rfl
end
end Go.Proofs.YtemmhhdnlbmicaaGreat
