/- The laws' marks, written into clauses of the function's own. -/
import Derived.Test.YtemmhhdnlbmicaaGreatZMg1
import Derived.Laws.StructEq
import Derived.Laws.Tables
namespace Go.Proofs.YtemmhhdnlbmicaaGreat
open Go Go.RowKit

section
attribute [local irreducible] Run CondV aj bd
theorem TrC.parts {L:bI} {cs:List Value} {c:C} (h:TrC L cs c):∃ kv ks L1 L2,cs=[.int .i64 c.head.kind,.int .i64 c.head.n,.string c.head.name,kv,ks]/\L=L1++L2/\TrSl 4 TrT L1 kv c.head.kids/\TrSl 4 TrT L2 ks c.body:=by
 obtain ⟨hd,ks,L1,L2,rfl,rfl,h1,h2⟩:=h
 obtain ⟨kv,rfl,_,_,_,hkT⟩:=TrT.iff.1 h1
 exact ⟨kv,ks,L1,L2,rfl,rfl,hkT,h2⟩
end

end Go.Proofs.YtemmhhdnlbmicaaGreat

/- The laws' marks, read again. -/
namespace Go.Proofs.YtemmhhdnlbmicaaGreat
open Go Go.RowKit

section
attribute [local irreducible] Run CondV aj bd
end

end Go.Proofs.YtemmhhdnlbmicaaGreat

/- Names of goals with their numbers of arguments: built, compared; the clauses for one. -/
namespace Go.Proofs.YtemmhhdnlbmicaaGreat
open Go Go.RowKit

section
variable {w:World} {K:Value->World->Prop}
attribute [local irreducible] Run
end

attribute [local irreducible] Run CondV aj bd
structure Pd where
 name:ByteArray
 arity:Int
deriving DecidableEq
def Pd.cells (x:Pd):List Value:=[.string x.name,.int .i64 x.arity]
end Go.Proofs.YtemmhhdnlbmicaaGreat

/- The clauses for a goal; which clauses can be unfolded: both sides. -/
namespace Go.Proofs.YtemmhhdnlbmicaaGreat
open Go Go.RowKit
attribute [local irreducible] Run CondV aj bd

end Go.Proofs.YtemmhhdnlbmicaaGreat

/- Lists of predicates: asked and grown, on both sides. -/
namespace Go.Proofs.YtemmhhdnlbmicaaGreat
open Go Go.RowKit
attribute [local irreducible] Run CondV aj bd

end Go.Proofs.YtemmhhdnlbmicaaGreat

/- Marks in rows of predicates; trees lent and taken back. -/
namespace Go.Proofs.YtemmhhdnlbmicaaGreat
open Go Go.RowKit

/- a tree of the function's own, handed to readers, and taken back -/
theorem Inv.lendAll {w0 w:World} {X:List Nat} {A:List Item} (M:bI) {S:az} (h:Inv w0 X (A++bP M) S w) :
  ∃ S',Sle S S'/\Ins S' M/\Inv w0 X A S' w/\∀ B w',Inv w0 X B S' w'->Inv w0 X (B++bP M) S w':=by
 obtain ⟨S',h1,h2,h3,h4⟩:=Inv.publishAll M h
 have hnd:=h.nd
 rw [cH,List.nodup_append] at hnd
 refine ⟨S',h2,h3,h1,fun B w' hB=>⟨hB.size,hB.os,hB.tape,hB.output,hB.old,fun it hit=>?_,?_,fun b hb=>?_,fun b o hb=>⟨(hB.pub b o (h2 b o hb)).1,fun hb'=>?_⟩⟩⟩
 ·rcases List.mem_append.1 hit with hit|hit
  ·exact hB.its it hit
  ·obtain ⟨p,hp,rfl⟩:=List.mem_map.1 hit
   exact (hB.pub _ _ (h3 p hp)).1
 ·rw [cH,List.nodup_append]
  refine ⟨hB.nd,hnd.2.1,fun a ha b hb e=>?_⟩
  subst e
  obtain ⟨p,hp,rfl⟩:=iL.1 hb
  exact (hB.pub _ _ (h3 p hp)).2 ha
 ·rw [cH] at hb
  rcases List.mem_append.1 hb with hb|hb
  ·exact hB.new b hb
  ·exact h.new b (by rw [cH]; exact List.mem_append_right _ hb)
 ·rw [cH] at hb'
  rcases List.mem_append.1 hb' with hb'|hb'
  ·exact (hB.pub b o (h2 b o hb)).2 hb'
  ·exact (h.pub b o hb).2 (by rw [cH]; exact List.mem_append_right _ hb')
/- a row seen as its block -/
theorem Inv.openRow {w0 w:World} {X:List Nat} {A:List Item} {S:az} {v:Value} {e:TypeId} {k n:Nat} {xs:List Value} (h:Inv w0 X (A++[.row v e k n xs]) S w) :
  xs.length=n * k/\((v=.slice none 0 0/\n=0) ∨ ∃ g cap cur,v=.slice (some ⟨g,0,none⟩) n cap/\n<=cap/\cap<=maxLen/\cur.size=cap * k/\cur.toList.take (n * k)=xs/\Inv w0 X (A++[.blk g (.cells cur e)]) S w):=by
 have hm:w.ownsRow 0 e k v n xs:=h.its (.row v e k n xs) (by simp)
 obtain ⟨hl,hm⟩:=hm
 refine ⟨hl,?_⟩
 rcases hm with hn|⟨g,cap,cur,rfl,_,hg,hnc,hcm,hcs,ht⟩
 ·exact .inl hn
 ·have hf:bV (A++[Item.blk g (.cells cur e)])=bV (A++[Item.row (.slice (some ⟨g,0,none⟩) n cap) e k n xs]):=by
   simp [bV,Item.foot,Value.ownBlock]
  refine .inr ⟨g,cap,cur,rfl,hnc,hcm,hcs,ht,h.size,h.os,h.tape,h.output,h.old,fun it hit=>?_,by rw [hf]; exact h.nd,by rw [hf]; exact h.new,by rw [hf]; exact h.pub⟩
  rcases List.mem_append.1 hit with hit|hit
  ·exact h.its it (List.mem_append_left _ hit)
  ·simp at hit
   subst hit
   exact hg
theorem Inv.closeRow {w0 w:World} {X:List Nat} {A:List Item} {S:az} {g cap k n:Nat} {cur:Array Value} {e:TypeId} (h:Inv w0 X (A++[.blk g (.cells cur e)]) S w) (hn:n<=cap) (hc:cap<=maxLen) (hs:cur.size=cap * k) :
  Inv w0 X (A++[.row (.slice (some ⟨g,0,none⟩) n cap) e k n (cur.toList.take (n * k))]) S w:=by
 have hg:w.heap[g]?=some (.cells cur e):=h.its (.blk g (.cells cur e)) (by simp)
 have hf:bV (A++[Item.row (.slice (some ⟨g,0,none⟩) n cap) e k n (cur.toList.take (n * k))])=bV (A++[Item.blk g (.cells cur e)]):=by
  simp [bV,Item.foot,Value.ownBlock]
 refine ⟨h.size,h.os,h.tape,h.output,h.old,fun it hit=>?_,by rw [hf]; exact h.nd,by rw [hf]; exact h.new,by rw [hf]; exact h.pub⟩
 rcases List.mem_append.1 hit with hit|hit
 ·exact h.its it (List.mem_append_left _ hit)
 ·simp at hit
  subst hit
  refine ⟨?_,.inr ⟨g,cap,cur,rfl,Nat.zero_le _,hg,hn,hc,hs,rfl⟩⟩
  rw [List.length_take,Array.length_toList,hs]
  exact Nat.min_eq_left (Nat.mul_le_mul_right k hn)

section
attribute [local irreducible] Run CondV aj bd
end

end Go.Proofs.YtemmhhdnlbmicaaGreat

/- Trees grown by append; impl.own and its kin. -/
namespace Go.Proofs.YtemmhhdnlbmicaaGreat
open Go Go.RowKit

structure Grown {α:Type} (k:Nat) (R:bI->List Value->α->Prop) (Ls:List bI) (css:List (List Value)) (ys:List α):Prop where
 hL:Ls.length=ys.length
 hc:css.length=ys.length
 hk:∀ cs∈css,cs.length=k
 hR:∀ i (h:i<ys.length) (h1:i<Ls.length) (h2:i<css.length),R Ls[i] css[i] ys[i]
theorem Grown.nil {α:Type} (k:Nat) (R:bI->List Value->α->Prop):Grown k R [] [] ([]:List α):=⟨rfl,rfl,by simp,fun i h=>by simp at h⟩
theorem Grown.snoc {α:Type} {k:Nat} {R:bI->List Value->α->Prop} {Ls:List bI} {css:List (List Value)} {ys:List α} (h:Grown k R Ls css ys) {L:bI} {cs:List Value} {y:α} (hR:R L cs y) (hl:cs.length=k) :
  Grown k R (Ls++[L]) (css++[cs]) (ys++[y]):=by
 refine ⟨by simp [h.hL],by simp [h.hc],fun c hc=>?_,fun i h0 h1 h2=>?_⟩
 ·rcases List.mem_append.1 hc with hc|hc
  ·exact h.hk c hc
  ·simp at hc; subst hc; exact hl
 ·have e1:=h.hL
  have e2:=h.hc
  by_cases hi:i<ys.length
  ·rw [List.getElem_append_left (by omega),List.getElem_append_left (by omega),List.getElem_append_left hi]
   exact h.hR i hi (by omega) (by omega)
  ·have:i=ys.length:=by simp at h0; omega
   subst this
   rw [List.getElem_append_right (by omega),List.getElem_append_right (by omega),List.getElem_append_right (by omega)]
   simp only [e1,e2,Nat.sub_self,List.getElem_cons_zero]
   exact hR
theorem jP (k:Nat):∀ (css:List (List Value)) (i:Nat) (_:∀ cs∈css,cs.length=k) (h:i<css.length),(css.flatten.drop (i * k)).take k=css[i]
 | [],i,_,h=>by simp at h
 | c::css,0,hk,_=>by
  have:=hk c (List.mem_cons_self ..)
  rw [List.flatten_cons,Nat.zero_mul,List.drop_zero,List.take_append_of_le_length (by omega),List.take_of_length_le (by omega)]
  rfl
 | c::css,i+1,hk,h=>by
  have:=hk c (List.mem_cons_self ..)
  rw [List.flatten_cons,Nat.succ_mul,Nat.add_comm,<- List.drop_drop,List.drop_left' this]
  exact jP k css i (fun cs hc=>hk cs (List.mem_cons_of_mem _ hc)) (by simpa using h)
abbrev bj (v:Value) (e:TypeId) (k:Nat) (css:List (List Value)):Item:=.row v e k css.length css.flatten
theorem Inv.rowTree {α:Type} {w0 w:World} {X:List Nat} {A:List Item} {S:az} {v:Value} {e:TypeId} {k:Nat} {R:bI->List Value->α->Prop} {Ls:List bI} {css:List (List Value)} {ys:List α}
  (h:Inv w0 X (A++(bj v e k css::bP Ls.flatten)) S w) (hg:Grown k R Ls css ys):∃ L,TrSl k R L v ys/\Inv w0 X (A++bP L) S w:=by
 have hp:List.Perm ((A++bP Ls.flatten)++[bj v e k css]) (A++(bj v e k css::bP Ls.flatten)):=by
  rw [List.append_assoc]
  exact List.Perm.append_left _ List.perm_append_comm
 obtain ⟨hl,ho⟩:=(h.perm hp).openRow
 have hcy:=hg.hc
 have hLy:=hg.hL
 rcases ho with ⟨rfl,h0⟩|⟨g,cap,cur,rfl,hnc,hcm,hcs,ht,hI⟩
 ·have:ys=[]:=List.eq_nil_of_length_eq_zero (by omega)
  subst this
  refine ⟨[],TrSl.nil (by simp [maxLen]),?_⟩
  simpa [bP] using h.sub (List.sublist_append_left _ _)
 ·by_cases hy:ys=[]
  ·subst hy
   have:css=[]:=List.eq_nil_of_length_eq_zero (by simpa using hcy)
   subst this
   refine ⟨[],TrSl.nil hcm,?_⟩
   simpa [bP] using h.sub (List.sublist_append_left _ _)
  ·refine ⟨(g,.cells cur e)::Ls.flatten,⟨_,cap,by rw [hcy],by omega,hcm,.inr ⟨g,cur,e,Ls,rfl,rfl,hLy,by omega,fun i h1 h2=>?_⟩⟩,?_⟩
   ·have hik:i * k+k<=css.length * k:=by rw [<- Nat.succ_mul]; exact Nat.mul_le_mul_right k (by omega)
    have:=jP k css i hg.hk (by omega)
    rw [<- ht,List.drop_take,List.take_take,Nat.min_eq_left (by omega)] at this
    rw [bu,this]
    exact hg.hR i h1 h2 (by omega)
   ·refine hI.perm ?_
    rw [List.append_assoc]
    exact List.Perm.append_left _ (List.perm_append_comm (l₁:=[Item.blk g (.cells cur e)]))
theorem fW (v:Value) (e:TypeId) (k:Nat) (css:List (List Value)) (cs:List Value):Item.row v e k (css.length+1) (css.flatten++cs)=bj v e k (css++[cs]):=by
 simp [bj]
section
variable {P:Program} {w w0:World} {X:List Nat} {L:List Item} {S:az} {K:Value->World->Prop}
attribute [local irreducible] Run CondV aj bd
/- append(row, x): x is put into a block of its own first -/
theorem fX (h:Inv w0 X L S w) {T ty e:TypeId} {k by_:Nat} {z v:Value} {cs:List Bool} {css:List (List Value)} (i:Nat) (xs:List Value)
  (hT:oG P T=some (e,k,by_,z)) (hk0:0<k) (hk24:k<=65536) (hi:L[i]?=some (bj v e k css)) (hl:xs.length=k) (h1:∀ u∈xs,u.oneCell'=true) (hfit:css.length+1<=4294967296) (hby:by_<=32768)
  (hk:∀ v' w',Inv w0 X (L.set i (bj v' e k (css++[xs]))) S w'->K v' w') :
  Run P (aS T 1 [(0,.agg xs.toArray)]) w fun u w'=>Run P (ar .append #[T,T] ty cs [v,u]) w' K:=by
 refine fb h hT (by simp [Value.cells,hl]) hk24 hk0 fun b w' hI=>?_
 have hil:i<L.length:=(List.getElem?_eq_some_iff.1 hi).1
 refine fo hI i xs hT hk0 (by rw [List.getElem?_append_left hil]; exact hi) (by omega) (m:=1) (o:=0) ?_ h1 hfit hby fun v' w' hI=>?_
 ·intro j u hj
  rw [hI.cellL (i:=L.length) (by rw [List.getElem?_append_right (Nat.le_refl _),Nat.sub_self]; rfl)]
  rw [Nat.zero_add]
  simpa [Value.cells] using hj
 ·refine hk _ _ ?_
  rw [<- fW]
  rw [List.set_append_left _ _ hil] at hI
  exact hI.sub (List.sublist_append_left _ _)
end

section
attribute [local irreducible] Run CondV aj bd
theorem AZ {ts:List T} (ih:∀ t∈ts,∀ (S:az) (cs:List Value),RdT S cs t->wT t<=1048576->Tri Tryz.prog JI [.agg cs.toArray] [] S (Gb S t))
  {S:az} {v:Value} (h:RdSl S 4 (RdT S) v ts) (hw:ts.length+wL ts<=1048576):Tri Tryz.prog vR [v] [] S (Lg 4 TrT S ts):=by
 intro w hI
 refine yt ?_
 unfold tU
 refine a9 h av ?_
 refine ⟨fun i t w'=>∃ (k:Nat) (Ls:List bI) (css:List (List Value)),k<=ts.length/\i=.int .i64 k/\Grown 4 TrT Ls css (ts.take k)/\Inv w [] (bj t ab 4 css::bP Ls.flatten) S w',
  fun i _ _=>ts.length - (intOf i).toNat,⟨0,[],[],Nat.zero_le _,rfl,Grown.nil _ _,hI.rowNil ab 4⟩,?_⟩
 intro t8 _ t3 _ _ _ _ _ _ _ _ _ w'
 rintro ⟨k,Ls,css,hk,rfl,hg,hI⟩
 refine bR ?_
 refine bk (fun hki=>?_) (fun hki=>?_)
 ·have hk':k<ts.length:=by omega
  have htl:(ts.take k).length=k:=by simp; omega
  have hcl:=hg.hc
  refine dG hI h av ai hk' (fun _ _=>RdT.length) fun cs hcs=>?_
  have hm:=List.getElem_mem hk'
  have hwm:=iB hm
  have hlc:=hcs.length
  refine bw hI bG fun b6 w' hI=>?_
  have hI:=hI.perm (M:=.blk b6 _::(bj t3 ab 4 css::bP Ls.flatten)) (List.perm_append_comm (l₁:=[_]))
  refine bf hI 0 rfl ai (by simpa using hlc) rfl (by simpa using hcs.one) fun w' hI=>?_
  refine ba hI 0 ai rfl (by simpa using hlc) ?_
  have hI:Inv w [] (bj t3 ab 4 css::bP Ls.flatten) S w':=hI.sub (List.sublist_cons_self _ _)
  refine Run.call0 G8 Gq hI (ih _ hm S cs hcs (by omega)) fun v' I' S' w'=>?_
  rintro ⟨rfl,cs',L,rfl,rfl,hT⟩ _ hI
  refine fX hI 0 cs' bD (by omega) (by omega) rfl hT.length hT.one (by omega) (by omega) fun v' w' hI=>?_
  refine bL (by omega) ?_
  refine ⟨⟨k+1,Ls++[L],css++[cs'],hk',rfl,?_,?_⟩,by simp [intOf]; omega⟩
  ·rw [List.take_succ_eq_append_getElem hk']
   exact hg.snoc hT hT.length
  ·simp only [List.flatten_append,List.flatten_cons,List.flatten_nil,List.append_nil,eZ]
   exact hI
 ·have:k=ts.length:=by omega
  subst this
  rw [List.take_length] at hg
  obtain ⟨L,hT,hI⟩:=Inv.rowTree (A:=[]) hI hg
  exact ⟨_,_,_,rfl,hI,Ext.refl _ _ _,rfl,_,rfl,hT⟩
theorem CJ:∀ (t:T) (S:az) (cs:List Value),RdT S cs t->wT t<=1048576->Tri Tryz.prog JI [.agg cs.toArray] [] S (Gb S t):=by
 refine T.ind fun k n s ks ih S cs h hw=>?_
 intro w hI
 obtain ⟨kv,rfl,h1,h2,hs,hks⟩:=RdT.iff.1 h
 simp only [T.name,T.kids,T.kind,T.n] at h1 h2 hs hks ⊢
 simp only [wT] at hw
 refine Hh ?_
 unfold GI
 refine bM hI fun b1 w' hI=>?_
 refine bw hI bG fun b2 w' hI=>?_
 refine aI hI 0 rfl aT aP rfl ?_
 refine Run.call0 uh tZ hI (AZ ih hks (by omega)) fun v' I' S' w'=>?_
 rintro ⟨rfl,L,rfl,hT⟩ _ hI
 have hv:v'.cells=#[v']/\v'.oneCell'=true:=by obtain ⟨a,cap,rfl,_⟩:=hT; exact ⟨rfl,rfl⟩
 refine jL hI 0 rfl aT aP rfl hv.1 hv.2 fun w' hI=>?_
 refine ba hI 0 ai rfl rfl ?_
 refine bf hI 1 rfl ai rfl rfl ?_ fun w' hI=>?_
 ·intro u hu
  have hu':u∈([.int .i64 k,.int .i64 n,.string s,v']:List Value):=hu
  simp at hu'
  rcases hu' with rfl|rfl|rfl|rfl <;> first|rfl|exact hv.2
 refine bZ hI 1 ai rfl rfl ?_
 refine ⟨_,_,_,rfl,hI.sub (List.sublist_append_right [_,_] (bP L)),Ext.refl _ _ _,rfl,[.int .i64 k,.int .i64 n,.string s,v'],L,rfl,rfl,TrT.iff.2 ⟨v',rfl,h1,h2,hs,hT⟩⟩
theorem BM {ts:List T} {S:az} {v:Value} (h:RdSl S 4 (RdT S) v ts) (hw:ts.length+wL ts<=1048576):Tri Tryz.prog vR [v] [] S (Lg 4 TrT S ts):=
 AZ (fun t _=>CJ t) h hw
end

end Go.Proofs.YtemmhhdnlbmicaaGreat

/- impl.ownClause, impl.ownProgram. -/
namespace Go.Proofs.YtemmhhdnlbmicaaGreat
open Go Go.RowKit
section
variable {w:World} {K:Value->World->Prop}
attribute [local irreducible] Run
theorem k0 {a b:Int} {s:ByteArray} {k:Value} (hk:K (.agg #[.int .i64 a,.int .i64 b,.string s,k,.slice none 0 0]) w):Run Tryz.prog (dy aR [(0,.agg #[.int .i64 a,.int .i64 b,.string s,k])]) w K:=by
 refine Run.of (v:=.agg #[.int .i64 a,.int .i64 b,.string s,k,.slice none 0 0]) (w':=w) ?_ hk
 unfold dy
 rw [Sem.run_bind,run_build w aR _ #[.int .i64 a,.int .i64 b,.string s,k,.slice none 0 0] (by kernel_rfl),Result.andThen_ok]
 rfl
theorem wa {a b:Int} {s:ByteArray} (hk:K (.agg #[.int .i64 a,.int .i64 b,.string s,.slice none 0 0]) w):Run Tryz.prog (dy ab [(0,.int .i64 a),(1,.int .i64 b),(2,.string s)]) w K:=by
 refine Run.of (v:=.agg #[.int .i64 a,.int .i64 b,.string s,.slice none 0 0]) (w':=w) ?_ hk
 unfold dy
 rw [Sem.run_bind,run_build w ab _ #[.int .i64 a,.int .i64 b,.string s,.slice none 0 0] (by kernel_rfl),Result.andThen_ok]
 rfl
end
section
attribute [local irreducible] Run CondV aj bd
end

end Go.Proofs.YtemmhhdnlbmicaaGreat

/- impl.ownProgram; spec's copies. -/
namespace Go.Proofs.YtemmhhdnlbmicaaGreat
open Go Go.RowKit
theorem RdC.one {S:az} {cs:List Value} {c:C} (h:RdC S cs c):∀ u∈cs,u.oneCell'=true:=by
 obtain ⟨hd,ks,rfl,h1,a,cap,rfl,_⟩:=h
 intro u hu
 rcases List.mem_append.1 hu with hu|hu
 ·exact h1.one u hu
 ·simp at hu; subst hu; rfl
section
attribute [local irreducible] Run CondV aj bd
/- a row's value is a slice -/
theorem Inv.rowSlice {w0 w:World} {X:List Nat} {L:List Item} {S:az} {v:Value} {e:TypeId} {k n:Nat} {xs:List Value} (h:Inv w0 X L S w) (i:Nat) (hi:L[i]?=some (.row v e k n xs)):∃ a m c,v=.slice a m c:=by
 have hm:w.ownsRow 0 e k v n xs:=h.its (.row v e k n xs) (List.mem_of_getElem? hi)
 rcases hm.2 with ⟨rfl,_⟩|⟨g,cap,cur,rfl,_⟩
 ·exact ⟨_,_,_,rfl⟩
 ·exact ⟨_,_,_,rfl⟩
def bv (B1 B2 B3 B3' r r':Item) (rest:List Item) (M:bI) (B27:Item) (d7 d8 d9 d11:Bool):List Item:=
 B1::B2::(match d11 with|true=>B3'|false=>B3)::(match d9 with|true=>r'|false=>r)::(rest++((match d7 with|true=>bP M|false=>[])++(match d8 with|true=>[B27]|false=>[])))

theorem fN:∀ (t:T) (S:az) (cs:List Value),RdT S cs t->wT t<=1048576->Tri Tryz.prog rf [.agg cs.toArray] [] S (Gb S t):=by
 refine T.ind fun k n s ks ih S cs h hw=>?_
 intro w hI
 obtain ⟨kv,rfl,h1,h2,hs,hks⟩:=RdT.iff.1 h
 simp only [T.name,T.kids,T.kind,T.n] at h1 h2 hs hks ⊢
 simp only [wT] at hw
 refine oh ?_
 unfold o8
 refine bM hI fun b1 w' hI=>?_
 refine bw hI bG fun b2 w' hI=>?_
 refine aI hI 0 rfl bx bn rfl ?_
 refine aI hI 0 rfl bJ bn rfl ?_
 refine aI hI 0 rfl bo bl rfl ?_
 refine wa ?_
 refine bw hI bG fun b3 w' hI=>?_
 refine bf hI 2 rfl ai rfl rfl (by simp [Value.oneCell']) fun w' hI=>?_
 have hI:=hI.rowNil ab 4
 refine ⟨fun i w'=>∃ (j:Nat) (kvc:Value) (Ls:List bI) (css:List (List Value)),j<=ks.length/\i=.int .i64 j/\Grown 4 TrT Ls css (ks.take j)/\
   Inv w [] (.blk b1 (.cells #[.int .i64 k,.int .i64 n,.string s,kv] ab)::.blk b2 (.cells #[.int .i64 0,.int .i64 0,.string ⟨#[]⟩,.slice none 0 0] ab)::.blk b3 (.cells #[.int .i64 k,.int .i64 n,.string s,kvc] ab)::bj kvc ab 4 css::bP Ls.flatten) S w',
  fun i _=>ks.length - (intOf i).toNat,⟨0,_,[],[],Nat.zero_le _,rfl,Grown.nil _ _,hI⟩,?_⟩
 intro t4 _ _ _ _ _ _ _ _ _ _ _ _ _ _ _ _ _ _ w'
 rintro ⟨j,kvc,Ls,css,hj,rfl,hg,hI⟩
 refine aI hI 0 rfl aT aP rfl ?_
 refine a9 hks av ?_
 refine bR ?_
 refine bk (fun hji=>?_) (fun hji=>?_)
 ·have hj':j<ks.length:=by omega
  have hjl:(ks.take j).length=j:=by simp; omega
  have hcl:=hg.hc
  have hm:=List.getElem_mem hj'
  have hwm:=iB hm
  obtain ⟨b,o,cap,c,E,fz,rfl,hS,hR⟩:=hks.at_ hj'
  refine ⟨fun D c5 cE cM bW bQ bU cA ce cN cJ b0 w_=>(D 0=true->b0=.pointer (some ⟨b3,3,none⟩))/\(D 1=true->cJ=kvc)/\(D 2=true->cN=.pointer (some ⟨b1,3,none⟩))/\(D 3=true->ce=.slice (some ⟨b,o,none⟩) (ks).length cap)/\(D 4=true->cA=.int .i64 j)/\(D 5=true->bU=.pointer (some ⟨b,o+j * 4,none⟩))/\(D 6=true->bQ=.agg (bu c (o+j * 4) 4).toArray)/\(D 7=true->True)/\(D 8=true->True)/\(D 9=true->True)/\(D 10=true->c5=.pointer (some ⟨b3,3,none⟩))/\(D 11=true->True)/\∃ M cs7 b8,(D 7=true->bW=.agg cs7.toArray/\TrT M cs7 (ks)[j])/\(D 8=true->cM=.slice (some ⟨b8,0,none⟩) 1 1)/\(D 8=true->D 7=true)/\(D 9=true->D 8=true)/\(D 11=true->D 9=true)/\(D 11=true->D 1=true)/\Inv w [] (bv (.blk b1 (.cells #[.int .i64 k,.int .i64 n,.string s,.slice (some ⟨b,o,none⟩) ks.length cap] ab)) (.blk b2 (.cells #[.int .i64 0,.int .i64 0,.string ⟨#[]⟩,.slice none 0 0] ab)) (.blk b3 (.cells #[.int .i64 k,.int .i64 n,.string s,kvc] ab)) (.blk b3 (.cells #[.int .i64 k,.int .i64 n,.string s,cE] ab)) (bj kvc ab 4 css) (bj cE ab 4 (css++[cs7])) (bP Ls.flatten) M (.blk b8 (.cells cs7.toArray ab)) (D 7) (D 8) (D 9) (D 11)) S w_,⟨ae,ae,ae,ae,ae,ae,ae,ae,ae,ae,ae,ae,⟨[],[],0,ae,ae,ae,ae,ae,ae,by simpa [bv,bP] using hI.draw⟩⟩,⟨?_,?_,?_,?_,?_,?_,?_,?_,?_,?_,?_,?_,trivial⟩,?_⟩
  ·intro D aY  c5 cE cM bW bQ bU cA ce cN cJ b0 w_
   rintro ⟨aA,aB,aC,aD,aw,aE,aF,aJ,aL,aQ,al,ao,⟨M,cs7,b8,e7,e8,k8,k9,k11,k1,hI⟩⟩
   refine bh aT ?_
   exact ⟨fun _=>rfl,aB,aC,aD,aw,aE,aF,aJ,aL,aQ,al,ao,⟨M,cs7,b8,e7,e8,k8,k9,k11,k1,hI⟩⟩
  ·intro D aY cc c5 cE cM bW bQ bU cA ce cN cJ b0 w_
   rintro ⟨aA,aB,aC,aD,aw,aE,aF,aJ,aL,aQ,al,ao,⟨M,cs7,b8,e7,e8,k8,k9,k11,k1,hI⟩⟩
   obtain rfl:=aA cc
   have f11:D 11=false:=Bool.eq_false_iff.2 fun h=>by rw [k1 h] at aY; cases aY
   refine bH (b:=b3) hI 2 (c:=(#[.int .i64 k,.int .i64 n,.string s,kvc])) aP (by rw [f11]; rfl) rfl ?_
   have k1:=fun (_:ay D 1 11=true)=>(rfl:ay D 1 1=true)
   exact ⟨aA,fun _=>rfl,aC,aD,aw,aE,aF,aJ,aL,aQ,al,ao,⟨M,cs7,b8,e7,e8,k8,k9,k11,k1,hI⟩⟩
  ·intro D aY  c5 cE cM bW bQ bU cA ce cN cJ b0 w_
   rintro ⟨aA,aB,aC,aD,aw,aE,aF,aJ,aL,aQ,al,ao,⟨M,cs7,b8,e7,e8,k8,k9,k11,k1,hI⟩⟩
   refine bh aT ?_
   exact ⟨aA,aB,fun _=>rfl,aD,aw,aE,aF,aJ,aL,aQ,al,ao,⟨M,cs7,b8,e7,e8,k8,k9,k11,k1,hI⟩⟩
  ·intro D aY eq c5 cE cM bW bQ bU cA ce cN cJ b0 w_
   rintro ⟨aA,aB,aC,aD,aw,aE,aF,aJ,aL,aQ,al,ao,⟨M,cs7,b8,e7,e8,k8,k9,k11,k1,hI⟩⟩
   obtain rfl:=aC eq
   refine bH hI 0 aP rfl rfl ?_
   exact ⟨aA,aB,aC,fun _=>rfl,aw,aE,aF,aJ,aL,aQ,al,ao,⟨M,cs7,b8,e7,e8,k8,k9,k11,k1,hI⟩⟩
  ·intro D aY  c5 cE cM bW bQ bU cA ce cN cJ b0 w_
   rintro ⟨aA,aB,aC,aD,aw,aE,aF,aJ,aL,aQ,al,ao,⟨M,cs7,b8,e7,e8,k8,k9,k11,k1,hI⟩⟩
   exact ⟨aA,aB,aC,aD,fun _=>rfl,aE,aF,aJ,aL,aQ,al,ao,⟨M,cs7,b8,e7,e8,k8,k9,k11,k1,hI⟩⟩
  ·intro D aY dB dJ c5 cE cM bW bQ bU cA ce cN cJ b0 w_
   rintro ⟨aA,aB,aC,aD,aw,aE,aF,aJ,aL,aQ,al,ao,⟨M,cs7,b8,e7,e8,k8,k9,k11,k1,hI⟩⟩
   obtain rfl:=aD dB
   obtain rfl:=aw dJ
   refine bi av hj' ?_
   exact ⟨aA,aB,aC,aD,aw,fun _=>rfl,aF,aJ,aL,aQ,al,ao,⟨M,cs7,b8,e7,e8,k8,k9,k11,k1,hI⟩⟩
  ·intro D aY d3 c5 cE cM bW bQ bU cA ce cN cJ b0 w_
   rintro ⟨aA,aB,aC,aD,aw,aE,aF,aJ,aL,aQ,al,ao,⟨M,cs7,b8,e7,e8,k8,k9,k11,k1,hI⟩⟩
   obtain rfl:=aE d3
   refine cV ai hR.length (fun j v hj=>by rw [hI.cellS hS]; exact bm rfl j v hj) ?_
   exact ⟨aA,aB,aC,aD,aw,aE,fun _=>rfl,aJ,aL,aQ,al,ao,⟨M,cs7,b8,e7,e8,k8,k9,k11,k1,hI⟩⟩
  ·intro D aY c4 c5 cE cM bW bQ bU cA ce cN cJ b0 w_
   rintro ⟨aA,aB,aC,aD,aw,aE,aF,aJ,aL,aQ,al,ao,⟨M,cs7,b8,e7,e8,k8,k9,k11,k1,hI⟩⟩
   obtain rfl:=aF c4
   have f8:D 8=false:=Bool.eq_false_iff.2 fun h=>by rw [k8 h] at aY; cases aY
   have f9:D 9=false:=Bool.eq_false_iff.2 fun h=>by rw [k9 h] at f8; cases f8
   have f11:D 11=false:=Bool.eq_false_iff.2 fun h=>by rw [k11 h] at f9; cases f9
   rw [aY,f8,f9,f11] at hI
   refine Run.call0 fg e9 hI (ih _ (List.getElem_mem hj') S _ hR (by omega)) fun v' I' S w_=>?_
   rintro ⟨rfl,cs7,M,rfl,rfl,hT⟩ _ hI
   have e7:ay D 7 7=true->Value.agg cs7.toArray=Value.agg cs7.toArray/\TrT M cs7 (ks)[j]:=fun _=>⟨rfl,hT⟩
   have k8:=fun (_:ay D 7 8=true)=>(rfl:ay D 7 7=true)
   have hI:Inv w [] (bv (.blk b1 (.cells #[.int .i64 k,.int .i64 n,.string s,.slice (some ⟨b,o,none⟩) ks.length cap] ab)) (.blk b2 (.cells #[.int .i64 0,.int .i64 0,.string ⟨#[]⟩,.slice none 0 0] ab)) (.blk b3 (.cells #[.int .i64 k,.int .i64 n,.string s,kvc] ab)) (.blk b3 (.cells #[.int .i64 k,.int .i64 n,.string s,cE] ab)) (bj kvc ab 4 css) (bj cE ab 4 (css++[cs7])) (bP Ls.flatten) M (.blk b8 (.cells cs7.toArray ab)) true (D 8) (D 9) (D 11)) S w_:=by
    rw [f8,f9,f11]
    simpa [bv] using hI
   exact ⟨aA,aB,aC,aD,aw,aE,aF,fun _=>by first|assumption|trivial,aL,aQ,al,ao,⟨M,cs7,b8,e7,e8,k8,k9,k11,k1,hI⟩⟩
  ·intro D aY ed c5 cE cM bW bQ bU cA ce cN cJ b0 w_
   rintro ⟨aA,aB,aC,aD,aw,aE,aF,aJ,aL,aQ,al,ao,⟨M,cs7,b8,e7,e8,k8,k9,k11,k1,hI⟩⟩
   have K6:=aJ ed
   have f9:D 9=false:=Bool.eq_false_iff.2 fun h=>by rw [k9 h] at aY; cases aY
   have f11:D 11=false:=Bool.eq_false_iff.2 fun h=>by rw [k11 h] at f9; cases f9
   obtain ⟨q7,hT⟩:=e7 ed
   subst q7
   rw [ed,aY,f9,f11] at hI
   refine fb hI bD (by simp [Value.cells,hT.length]) (by omega) (by omega) fun b8 w_ hI=>?_
   have e7:ay D 8 7=true->Value.agg cs7.toArray=Value.agg cs7.toArray/\TrT M cs7 (ks)[j]:=fun _=>⟨rfl,hT⟩
   have e8:=fun (_:ay D 8 8=true)=>(rfl:Value.slice (some ⟨b8,0,none⟩) 1 1=_)
   have k8:=fun (_:ay D 8 8=true)=>ed
   have k9:=fun (_:ay D 8 9=true)=>(rfl:ay D 8 8=true)
   have hI:Inv w [] (bv (.blk b1 (.cells #[.int .i64 k,.int .i64 n,.string s,.slice (some ⟨b,o,none⟩) ks.length cap] ab)) (.blk b2 (.cells #[.int .i64 0,.int .i64 0,.string ⟨#[]⟩,.slice none 0 0] ab)) (.blk b3 (.cells #[.int .i64 k,.int .i64 n,.string s,kvc] ab)) (.blk b3 (.cells #[.int .i64 k,.int .i64 n,.string s,cE] ab)) (bj kvc ab 4 css) (bj cE ab 4 (css++[cs7])) (bP Ls.flatten) M (.blk b8 (.cells cs7.toArray ab)) (D 7) true (D 9) (D 11)) S w_:=by
    rw [ed,f9,f11]
    simpa [bv,Value.cells] using hI
   exact ⟨aA,aB,aC,aD,aw,aE,aF,aJ,fun _=>by first|assumption|trivial,aQ,al,ao,⟨M,cs7,b8,e7,e8,k8,k9,k11,k1,hI⟩⟩
  ·intro D aY dC gp om c5 cE cM bW bQ bU cA ce cN cJ b0 w_
   rintro ⟨aA,aB,aC,aD,aw,aE,aF,aJ,aL,aQ,al,ao,⟨M,cs7,b8,e7,e8,k8,k9,k11,k1,hI⟩⟩
   obtain rfl:=aB dC
   have MZ:=aL gp
   have f11:D 11=false:=Bool.eq_false_iff.2 fun h=>by rw [k11 h] at aY; cases aY
   have q8:=e8 gp
   subst q8
   obtain ⟨_,hT⟩:=e7 om
   rw [om,gp,aY,f11] at hI
   have hblk:((bv (.blk b1 (.cells #[.int .i64 k,.int .i64 n,.string s,.slice (some ⟨b,o,none⟩) ks.length cap] ab)) (.blk b2 (.cells #[.int .i64 0,.int .i64 0,.string ⟨#[]⟩,.slice none 0 0] ab)) (.blk b3 (.cells #[.int .i64 k,.int .i64 n,.string s,cJ] ab)) (.blk b3 (.cells #[.int .i64 k,.int .i64 n,.string s,cE] ab)) (bj cJ ab 4 css) (bj cE ab 4 (css++[cs7])) (bP Ls.flatten) M (.blk b8 (.cells cs7.toArray ab)) true true false false))[4+(bP Ls.flatten).length+(bP M).length]?=some (.blk b8 (.cells cs7.toArray ab)):=by
    have e4:4+(bP Ls.flatten).length+(bP M).length=((bP Ls.flatten).length+(bP M).length)+1+1+1+1:=by omega
    rw [e4]
    simp only [bv,List.getElem?_cons_succ]
    rw [List.getElem?_append_right (by omega),Nat.add_sub_cancel_left,List.getElem?_append_right (Nat.le_refl _),Nat.sub_self]; rfl
   refine fo hI 3 cs7 bD (by omega) rfl (by rw [hT.length]) (m:=1) (o:=0) ?_ hT.one (by omega) (by omega) fun v' w_ hI=>?_
   ·intro i u hi
    rw [hI.cellL hblk,Nat.zero_add]
    simpa using hi
   rw [fW] at hI
   have k9:=fun (_:ay D 9 9=true)=>gp
   have k11:=fun (_:ay D 9 11=true)=>(rfl:ay D 9 9=true)
   have hI:Inv w [] (bv (.blk b1 (.cells #[.int .i64 k,.int .i64 n,.string s,.slice (some ⟨b,o,none⟩) ks.length cap] ab)) (.blk b2 (.cells #[.int .i64 0,.int .i64 0,.string ⟨#[]⟩,.slice none 0 0] ab)) (.blk b3 (.cells #[.int .i64 k,.int .i64 n,.string s,cJ] ab)) (.blk b3 (.cells #[.int .i64 k,.int .i64 n,.string s,v'] ab)) (bj cJ ab 4 css) (bj v' ab 4 (css++[cs7])) (bP Ls.flatten) M (.blk b8 (.cells cs7.toArray ab)) (D 7) (D 8) true (D 11)) S w_:=by
    rw [om,gp,f11]
    exact hI
   exact ⟨aA,aB,aC,aD,aw,aE,aF,aJ,aL,fun _=>by first|assumption|trivial,al,ao,⟨M,cs7,b8,e7,e8,k8,k9,k11,k1,hI⟩⟩
  ·intro D aY cc ij zW E9 zp IB KS LD Nu Nv c5 cE cM bW bQ bU cA ce cN cJ b0 w_
   rintro ⟨aA,aB,aC,aD,aw,aE,aF,aJ,aL,aQ,al,ao,⟨M,cs7,b8,e7,e8,k8,k9,k11,k1,hI⟩⟩
   refine bh aT ?_
   exact ⟨aA,aB,aC,aD,aw,aE,aF,aJ,aL,aQ,fun _=>rfl,ao,⟨M,cs7,b8,e7,e8,k8,k9,k11,k1,hI⟩⟩
  ·intro D aY gx fj K2 Dr mv Dx zf Av Eu KU lK oP Lc c5 cE cM bW bQ bU cA ce cN cJ b0 w_
   rintro ⟨aA,aB,aC,aD,aw,aE,aF,aJ,aL,aQ,al,ao,⟨M,cs7,b8,e7,e8,k8,k9,k11,k1,hI⟩⟩
   obtain rfl:=al gx
   have Nx:=aQ fj
   rw [lK,oP,fj,aY] at hI
   obtain ⟨va,vn,vc,hv9⟩:=Inv.rowSlice hI 3 rfl
   refine el hI 2 (n:=1) (by rw [hv9]; rfl) (by decide +kernel) rfl (by simp) (by rw [hv9]; simp [Value.cells,Value.oneCell']) fun w_ hI=>?_
   have hcl9:Value.cells cE=#[cE]:=by rw [hv9]; rfl
   rw [hcl9] at hI
   have k1:=fun (_:ay D 11 11=true)=>mv
   have k11:=fun (_:ay D 11 11=true)=>fj
   have hI:Inv w [] (bv (.blk b1 (.cells #[.int .i64 k,.int .i64 n,.string s,.slice (some ⟨b,o,none⟩) ks.length cap] ab)) (.blk b2 (.cells #[.int .i64 0,.int .i64 0,.string ⟨#[]⟩,.slice none 0 0] ab)) (.blk b3 (.cells #[.int .i64 k,.int .i64 n,.string s,kvc] ab)) (.blk b3 (.cells #[.int .i64 k,.int .i64 n,.string s,cE] ab)) (bj kvc ab 4 css) (bj cE ab 4 (css++[cs7])) (bP Ls.flatten) M (.blk b8 (.cells cs7.toArray ab)) (D 7) (D 8) (D 9) true) S w_:=by
    rw [lK,oP,fj]
    exact hI
   exact ⟨aA,aB,aC,aD,aw,aE,aF,aJ,aL,aQ,al,fun _=>trivial,⟨M,cs7,b8,e7,e8,k8,k9,k11,k1,hI⟩⟩
  intro D fi fp jt gK fT fY fE fm fw fF fC fD c5 cE cM bW bQ bU cA ce cN cJ b0 w_
  rintro ⟨aA,aB,aC,aD,aw,aE,aF,aJ,aL,aQ,al,ao,⟨M,cs7,b8,e7,e8,k8,k9,k11,k1,hI⟩⟩
  obtain rfl:=al fp
  have Nx:=aQ jt
  have MZ:=aL gK
  have K6:=aJ fT
  obtain rfl:=aF fY
  obtain rfl:=aE fE
  obtain rfl:=aw fm
  obtain rfl:=aD fw
  obtain rfl:=aC fF
  obtain rfl:=aB fC
  obtain rfl:=aA fD
  clear aA aB aC aD aw aE aF aJ aL aQ al ao
  obtain ⟨_,hT⟩:=e7 fT
  rw [fT,gK,jt,fi] at hI
  refine bL (by omega) ?_
  refine ⟨⟨j+1,cE,Ls++[M],css++[cs7],hj',rfl,?_,?_⟩,by simp [intOf]; omega⟩
  ·rw [List.take_succ_eq_append_getElem hj']
   exact hg.snoc hT hT.length
  ·simp only [List.flatten_append,List.flatten_cons,List.flatten_nil,List.append_nil,eZ]
   refine hI.sub ?_
   simp only [bv]
   rw [<- List.append_assoc]
   exact (((List.sublist_append_left _ _).cons_cons _).cons_cons _).cons_cons _ |>.cons_cons _
 ·have:j=ks.length:=by omega
  subst this
  rw [List.take_length] at hg
  obtain ⟨va,vn,vc,hvk⟩:=hI.rowSlice 3 rfl
  have hv1:kvc.oneCell'=true:=by rw [hvk]; rfl
  refine ba hI 2 ai rfl rfl ?_
  refine bf hI 1 rfl ai rfl rfl ?_ fun w' hI=>?_
  ·intro u hu
   have hu':u∈([.int .i64 k,.int .i64 n,.string s,kvc]:List Value):=hu
   simp at hu'
   rcases hu' with rfl|rfl|rfl|rfl <;> first|rfl|exact hv1
  refine bZ hI 1 ai rfl rfl ?_
  have hI:Inv w [] ([]++(bj kvc ab 4 css::bP Ls.flatten)) S w':=hI.sub (List.sublist_append_right [_,_,_] _)
  obtain ⟨L,hT,hI⟩:=Inv.rowTree hI hg
  exact ⟨_,_,_,rfl,hI,Ext.refl _ _ _,rfl,_,L,rfl,rfl,TrT.iff.2 ⟨kvc,rfl,h1,h2,hs,hT⟩⟩
end

end Go.Proofs.YtemmhhdnlbmicaaGreat

/- spec.l4Copy, spec.l14Copy: clauses and programs copied. -/
namespace Go.Proofs.YtemmhhdnlbmicaaGreat
open Go Go.RowKit
section
attribute [local irreducible] Run CondV aj bd
theorem EA {c0:C} {S:az} {cs:List Value} (h:RdC S cs c0) (hw:wC c0<=1048576):Tri Tryz.prog zJ [.agg cs.toArray] [] S (Oi S c0):=by
 intro w hI
 obtain ⟨hd,ks,rfl,h1,h2⟩:=h
 have h1':=h1
 obtain ⟨kv,rfl,g1,g2,g3,g4⟩:=RdT.iff.1 h1
 unfold wC at hw
 refine nU ?_
 unfold oF
 refine bM hI fun b1 w' hI=>?_
 refine bw hI eI fun b2 w' hI=>?_
 refine bh dh ?_
 refine fe hI 0 [.int .i64 c0.head.kind,.int .i64 c0.head.n,.string c0.head.name,kv] ai rfl rfl Lk ?_
 refine Run.call0 fg e9 hI (fN _ S _ h1' (by omega)) fun v' I' S w'=>?_
 rintro ⟨rfl,cs1,N,rfl,rfl,hT1⟩ _ hI
 obtain ⟨kh,rfl,_⟩:=TrT.iff.1 hT1
 refine k0 ?_
 refine bw hI eI fun b3 w' hI=>?_
 have hI:=hI.perm (M:=.blk b1 _::.blk b2 _::.blk b3 _::bP N) (((List.perm_append_comm (l₁:=[_])).cons _).cons _)
 refine bf hI 2 rfl bF rfl rfl ?_ fun w' hI=>?_
 ·intro u hu
  have hu':u∈([.int .i64 c0.head.kind,.int .i64 c0.head.n,.string c0.head.name,kh,.slice none 0 0]:List Value):=hu
  simp at hu'
  have o1:kh.oneCell'=true:=hT1.one kh (by simp)
  rcases hu' with rfl|rfl|rfl|rfl|rfl <;> first|rfl|exact o1
 have hI:=hI.rowNil ab 4
 have hI:=hI.perm (M:=.blk b1 (.cells #[.int .i64 c0.head.kind,.int .i64 c0.head.n,.string c0.head.name,kv,ks] aR)::.blk b2 (.cells #[.int .i64 0,.int .i64 0,.string ⟨#[]⟩,.slice none 0 0,.slice none 0 0] aR)::.blk b3 (.cells #[.int .i64 c0.head.kind,.int .i64 c0.head.n,.string c0.head.name,kh,.slice none 0 0] aR)::bj (.slice none 0 0) ab 4 []::bP N) ((((List.perm_append_comm (l₁:=[_])).cons _).cons _).cons _)
 refine ⟨fun i w'=>∃ (j:Nat) (kvc:Value) (Ls:List bI) (css:List (List Value)),j<=c0.body.length/\i=.int .i64 j/\Grown 4 TrT Ls css (c0.body.take j)/\
   Inv w [] (.blk b1 (.cells #[.int .i64 c0.head.kind,.int .i64 c0.head.n,.string c0.head.name,kv,ks] aR)::.blk b2 (.cells #[.int .i64 0,.int .i64 0,.string ⟨#[]⟩,.slice none 0 0,.slice none 0 0] aR)::.blk b3 (.cells #[.int .i64 c0.head.kind,.int .i64 c0.head.n,.string c0.head.name,kh,kvc] aR)::bj kvc ab 4 css::bP (N::Ls).flatten) S w',
  fun i _=>c0.body.length - (intOf i).toNat,⟨0,_,[],[],Nat.zero_le _,rfl,Grown.nil _ _,by simp only [List.flatten_cons,List.flatten_nil,List.append_nil]; exact hI⟩,?_⟩
 intro t4 _ _ _ _ _ _ _ _ _ _ _ _ _ _ _ _ _ _ w'
 rintro ⟨j,kvc,Ls,css,hj,rfl,hg,hI⟩
 refine aI hI 0 rfl bq aP rfl ?_
 refine a9 h2 av ?_
 refine bR ?_
 refine bk (fun hji=>?_) (fun hji=>?_)
 ·have hj':j<c0.body.length:=by omega
  have hjl:(c0.body.take j).length=j:=by simp; omega
  have hcl:=hg.hc
  have hm:=List.getElem_mem hj'
  have hwm:=iB hm
  obtain ⟨b,o,cap,c,E,fz,rfl,hS,hR⟩:=h2.at_ hj'
  refine ⟨fun D bW bQ bU cA ce cN cJ b0 dI dw dv w_=>(D 0=true->dv=.pointer (some ⟨b3,4,none⟩))/\(D 1=true->dw=kvc)/\(D 2=true->dI=.pointer (some ⟨b1,4,none⟩))/\(D 3=true->b0=.slice (some ⟨b,o,none⟩) (c0.body).length cap)/\(D 4=true->cJ=.int .i64 j)/\(D 5=true->cN=.pointer (some ⟨b,o+j * 4,none⟩))/\(D 6=true->ce=.agg (bu c (o+j * 4) 4).toArray)/\(D 7=true->True)/\(D 8=true->True)/\(D 9=true->True)/\(D 10=true->bW=.pointer (some ⟨b3,4,none⟩))/\(D 11=true->True)/\∃ M cs7 b8,(D 7=true->cA=.agg cs7.toArray/\TrT M cs7 (c0.body)[j])/\(D 8=true->bU=.slice (some ⟨b8,0,none⟩) 1 1)/\(D 8=true->D 7=true)/\(D 9=true->D 8=true)/\(D 11=true->D 9=true)/\(D 11=true->D 1=true)/\Inv w [] (bv (.blk b1 (.cells #[.int .i64 c0.head.kind,.int .i64 c0.head.n,.string c0.head.name,kv,.slice (some ⟨b,o,none⟩) c0.body.length cap] aR)) (.blk b2 (.cells #[.int .i64 0,.int .i64 0,.string ⟨#[]⟩,.slice none 0 0,.slice none 0 0] aR)) (.blk b3 (.cells #[.int .i64 c0.head.kind,.int .i64 c0.head.n,.string c0.head.name,kh,kvc] aR)) (.blk b3 (.cells #[.int .i64 c0.head.kind,.int .i64 c0.head.n,.string c0.head.name,kh,bQ] aR)) (bj kvc ab 4 css) (bj bQ ab 4 (css++[cs7])) (bP (N::Ls).flatten) M (.blk b8 (.cells cs7.toArray ab)) (D 7) (D 8) (D 9) (D 11)) S w_,⟨ae,ae,ae,ae,ae,ae,ae,ae,ae,ae,ae,ae,⟨[],[],0,ae,ae,ae,ae,ae,ae,by simpa [bv,bP] using hI.draw⟩⟩,⟨?_,?_,?_,?_,?_,?_,?_,?_,?_,?_,?_,?_,trivial⟩,?_⟩
  ·intro D aY  bW bQ bU cA ce cN cJ b0 dI dw dv w_
   rintro ⟨aA,aB,aC,aD,aw,aE,aF,aJ,aL,aQ,al,ao,⟨M,cs7,b8,e7,e8,k8,k9,k11,k1,hI⟩⟩
   refine bh bq ?_
   exact ⟨fun _=>rfl,aB,aC,aD,aw,aE,aF,aJ,aL,aQ,al,ao,⟨M,cs7,b8,e7,e8,k8,k9,k11,k1,hI⟩⟩
  ·intro D aY cc bW bQ bU cA ce cN cJ b0 dI dw dv w_
   rintro ⟨aA,aB,aC,aD,aw,aE,aF,aJ,aL,aQ,al,ao,⟨M,cs7,b8,e7,e8,k8,k9,k11,k1,hI⟩⟩
   obtain rfl:=aA cc
   have f11:D 11=false:=Bool.eq_false_iff.2 fun h=>by rw [k1 h] at aY; cases aY
   refine bH (b:=b3) hI 2 (c:=(#[.int .i64 c0.head.kind,.int .i64 c0.head.n,.string c0.head.name,kh,kvc])) aP (by rw [f11]; rfl) rfl ?_
   have k1:=fun (_:ay D 1 11=true)=>(rfl:ay D 1 1=true)
   exact ⟨aA,fun _=>rfl,aC,aD,aw,aE,aF,aJ,aL,aQ,al,ao,⟨M,cs7,b8,e7,e8,k8,k9,k11,k1,hI⟩⟩
  ·intro D aY  bW bQ bU cA ce cN cJ b0 dI dw dv w_
   rintro ⟨aA,aB,aC,aD,aw,aE,aF,aJ,aL,aQ,al,ao,⟨M,cs7,b8,e7,e8,k8,k9,k11,k1,hI⟩⟩
   refine bh bq ?_
   exact ⟨aA,aB,fun _=>rfl,aD,aw,aE,aF,aJ,aL,aQ,al,ao,⟨M,cs7,b8,e7,e8,k8,k9,k11,k1,hI⟩⟩
  ·intro D aY eq bW bQ bU cA ce cN cJ b0 dI dw dv w_
   rintro ⟨aA,aB,aC,aD,aw,aE,aF,aJ,aL,aQ,al,ao,⟨M,cs7,b8,e7,e8,k8,k9,k11,k1,hI⟩⟩
   obtain rfl:=aC eq
   refine bH hI 0 aP rfl rfl ?_
   exact ⟨aA,aB,aC,fun _=>rfl,aw,aE,aF,aJ,aL,aQ,al,ao,⟨M,cs7,b8,e7,e8,k8,k9,k11,k1,hI⟩⟩
  ·intro D aY  bW bQ bU cA ce cN cJ b0 dI dw dv w_
   rintro ⟨aA,aB,aC,aD,aw,aE,aF,aJ,aL,aQ,al,ao,⟨M,cs7,b8,e7,e8,k8,k9,k11,k1,hI⟩⟩
   exact ⟨aA,aB,aC,aD,fun _=>rfl,aE,aF,aJ,aL,aQ,al,ao,⟨M,cs7,b8,e7,e8,k8,k9,k11,k1,hI⟩⟩
  ·intro D aY dB dJ bW bQ bU cA ce cN cJ b0 dI dw dv w_
   rintro ⟨aA,aB,aC,aD,aw,aE,aF,aJ,aL,aQ,al,ao,⟨M,cs7,b8,e7,e8,k8,k9,k11,k1,hI⟩⟩
   obtain rfl:=aD dB
   obtain rfl:=aw dJ
   refine bi av hj' ?_
   exact ⟨aA,aB,aC,aD,aw,fun _=>rfl,aF,aJ,aL,aQ,al,ao,⟨M,cs7,b8,e7,e8,k8,k9,k11,k1,hI⟩⟩
  ·intro D aY d3 bW bQ bU cA ce cN cJ b0 dI dw dv w_
   rintro ⟨aA,aB,aC,aD,aw,aE,aF,aJ,aL,aQ,al,ao,⟨M,cs7,b8,e7,e8,k8,k9,k11,k1,hI⟩⟩
   obtain rfl:=aE d3
   refine cV ai hR.length (fun j v hj=>by rw [hI.cellS hS]; exact bm rfl j v hj) ?_
   exact ⟨aA,aB,aC,aD,aw,aE,fun _=>rfl,aJ,aL,aQ,al,ao,⟨M,cs7,b8,e7,e8,k8,k9,k11,k1,hI⟩⟩
  ·intro D aY c4 bW bQ bU cA ce cN cJ b0 dI dw dv w_
   rintro ⟨aA,aB,aC,aD,aw,aE,aF,aJ,aL,aQ,al,ao,⟨M,cs7,b8,e7,e8,k8,k9,k11,k1,hI⟩⟩
   obtain rfl:=aF c4
   have f8:D 8=false:=Bool.eq_false_iff.2 fun h=>by rw [k8 h] at aY; cases aY
   have f9:D 9=false:=Bool.eq_false_iff.2 fun h=>by rw [k9 h] at f8; cases f8
   have f11:D 11=false:=Bool.eq_false_iff.2 fun h=>by rw [k11 h] at f9; cases f9
   rw [aY,f8,f9,f11] at hI
   refine Run.call0 fg e9 hI (fN _ S _ hR (by omega)) fun v' I' S w_=>?_
   rintro ⟨rfl,cs7,M,rfl,rfl,hT⟩ _ hI
   have e7:ay D 7 7=true->Value.agg cs7.toArray=Value.agg cs7.toArray/\TrT M cs7 (c0.body)[j]:=fun _=>⟨rfl,hT⟩
   have k8:=fun (_:ay D 7 8=true)=>(rfl:ay D 7 7=true)
   have hI:Inv w [] (bv (.blk b1 (.cells #[.int .i64 c0.head.kind,.int .i64 c0.head.n,.string c0.head.name,kv,.slice (some ⟨b,o,none⟩) c0.body.length cap] aR)) (.blk b2 (.cells #[.int .i64 0,.int .i64 0,.string ⟨#[]⟩,.slice none 0 0,.slice none 0 0] aR)) (.blk b3 (.cells #[.int .i64 c0.head.kind,.int .i64 c0.head.n,.string c0.head.name,kh,kvc] aR)) (.blk b3 (.cells #[.int .i64 c0.head.kind,.int .i64 c0.head.n,.string c0.head.name,kh,bQ] aR)) (bj kvc ab 4 css) (bj bQ ab 4 (css++[cs7])) (bP (N::Ls).flatten) M (.blk b8 (.cells cs7.toArray ab)) true (D 8) (D 9) (D 11)) S w_:=by
    rw [f8,f9,f11]
    simpa [bv] using hI
   exact ⟨aA,aB,aC,aD,aw,aE,aF,fun _=>by first|assumption|trivial,aL,aQ,al,ao,⟨M,cs7,b8,e7,e8,k8,k9,k11,k1,hI⟩⟩
  ·intro D aY ed bW bQ bU cA ce cN cJ b0 dI dw dv w_
   rintro ⟨aA,aB,aC,aD,aw,aE,aF,aJ,aL,aQ,al,ao,⟨M,cs7,b8,e7,e8,k8,k9,k11,k1,hI⟩⟩
   have K6:=aJ ed
   have f9:D 9=false:=Bool.eq_false_iff.2 fun h=>by rw [k9 h] at aY; cases aY
   have f11:D 11=false:=Bool.eq_false_iff.2 fun h=>by rw [k11 h] at f9; cases f9
   obtain ⟨q7,hT⟩:=e7 ed
   subst q7
   rw [ed,aY,f9,f11] at hI
   refine fb hI bD (by simp [Value.cells,hT.length]) (by omega) (by omega) fun b8 w_ hI=>?_
   have e7:ay D 8 7=true->Value.agg cs7.toArray=Value.agg cs7.toArray/\TrT M cs7 (c0.body)[j]:=fun _=>⟨rfl,hT⟩
   have e8:=fun (_:ay D 8 8=true)=>(rfl:Value.slice (some ⟨b8,0,none⟩) 1 1=_)
   have k8:=fun (_:ay D 8 8=true)=>ed
   have k9:=fun (_:ay D 8 9=true)=>(rfl:ay D 8 8=true)
   have hI:Inv w [] (bv (.blk b1 (.cells #[.int .i64 c0.head.kind,.int .i64 c0.head.n,.string c0.head.name,kv,.slice (some ⟨b,o,none⟩) c0.body.length cap] aR)) (.blk b2 (.cells #[.int .i64 0,.int .i64 0,.string ⟨#[]⟩,.slice none 0 0,.slice none 0 0] aR)) (.blk b3 (.cells #[.int .i64 c0.head.kind,.int .i64 c0.head.n,.string c0.head.name,kh,kvc] aR)) (.blk b3 (.cells #[.int .i64 c0.head.kind,.int .i64 c0.head.n,.string c0.head.name,kh,bQ] aR)) (bj kvc ab 4 css) (bj bQ ab 4 (css++[cs7])) (bP (N::Ls).flatten) M (.blk b8 (.cells cs7.toArray ab)) (D 7) true (D 9) (D 11)) S w_:=by
    rw [ed,f9,f11]
    simpa [bv,Value.cells] using hI
   exact ⟨aA,aB,aC,aD,aw,aE,aF,aJ,fun _=>by first|assumption|trivial,aQ,al,ao,⟨M,cs7,b8,e7,e8,k8,k9,k11,k1,hI⟩⟩
  ·intro D aY dC gp om bW bQ bU cA ce cN cJ b0 dI dw dv w_
   rintro ⟨aA,aB,aC,aD,aw,aE,aF,aJ,aL,aQ,al,ao,⟨M,cs7,b8,e7,e8,k8,k9,k11,k1,hI⟩⟩
   obtain rfl:=aB dC
   have MZ:=aL gp
   have f11:D 11=false:=Bool.eq_false_iff.2 fun h=>by rw [k11 h] at aY; cases aY
   have q8:=e8 gp
   subst q8
   obtain ⟨_,hT⟩:=e7 om
   rw [om,gp,aY,f11] at hI
   have hblk:((bv (.blk b1 (.cells #[.int .i64 c0.head.kind,.int .i64 c0.head.n,.string c0.head.name,kv,.slice (some ⟨b,o,none⟩) c0.body.length cap] aR)) (.blk b2 (.cells #[.int .i64 0,.int .i64 0,.string ⟨#[]⟩,.slice none 0 0,.slice none 0 0] aR)) (.blk b3 (.cells #[.int .i64 c0.head.kind,.int .i64 c0.head.n,.string c0.head.name,kh,dw] aR)) (.blk b3 (.cells #[.int .i64 c0.head.kind,.int .i64 c0.head.n,.string c0.head.name,kh,bQ] aR)) (bj dw ab 4 css) (bj bQ ab 4 (css++[cs7])) (bP (N::Ls).flatten) M (.blk b8 (.cells cs7.toArray ab)) true true false false))[4+(bP (N::Ls).flatten).length+(bP M).length]?=some (.blk b8 (.cells cs7.toArray ab)):=by
    have e4:4+(bP (N::Ls).flatten).length+(bP M).length=((bP (N::Ls).flatten).length+(bP M).length)+1+1+1+1:=by omega
    rw [e4]
    simp only [bv,List.getElem?_cons_succ]
    rw [List.getElem?_append_right (by omega),Nat.add_sub_cancel_left,List.getElem?_append_right (Nat.le_refl _),Nat.sub_self]; rfl
   refine fo hI 3 cs7 bD (by omega) rfl (by rw [hT.length]) (m:=1) (o:=0) ?_ hT.one (by omega) (by omega) fun v' w_ hI=>?_
   ·intro i u hi
    rw [hI.cellL hblk,Nat.zero_add]
    simpa using hi
   rw [fW] at hI
   have k9:=fun (_:ay D 9 9=true)=>gp
   have k11:=fun (_:ay D 9 11=true)=>(rfl:ay D 9 9=true)
   have hI:Inv w [] (bv (.blk b1 (.cells #[.int .i64 c0.head.kind,.int .i64 c0.head.n,.string c0.head.name,kv,.slice (some ⟨b,o,none⟩) c0.body.length cap] aR)) (.blk b2 (.cells #[.int .i64 0,.int .i64 0,.string ⟨#[]⟩,.slice none 0 0,.slice none 0 0] aR)) (.blk b3 (.cells #[.int .i64 c0.head.kind,.int .i64 c0.head.n,.string c0.head.name,kh,dw] aR)) (.blk b3 (.cells #[.int .i64 c0.head.kind,.int .i64 c0.head.n,.string c0.head.name,kh,v'] aR)) (bj dw ab 4 css) (bj v' ab 4 (css++[cs7])) (bP (N::Ls).flatten) M (.blk b8 (.cells cs7.toArray ab)) (D 7) (D 8) true (D 11)) S w_:=by
    rw [om,gp,f11]
    exact hI
   exact ⟨aA,aB,aC,aD,aw,aE,aF,aJ,aL,fun _=>by first|assumption|trivial,al,ao,⟨M,cs7,b8,e7,e8,k8,k9,k11,k1,hI⟩⟩
  ·intro D aY cc ij zW E9 zp IB KS LD Nu Nv bW bQ bU cA ce cN cJ b0 dI dw dv w_
   rintro ⟨aA,aB,aC,aD,aw,aE,aF,aJ,aL,aQ,al,ao,⟨M,cs7,b8,e7,e8,k8,k9,k11,k1,hI⟩⟩
   refine bh bq ?_
   exact ⟨aA,aB,aC,aD,aw,aE,aF,aJ,aL,aQ,fun _=>rfl,ao,⟨M,cs7,b8,e7,e8,k8,k9,k11,k1,hI⟩⟩
  ·intro D aY gx fj K2 Dr mv Dx zf Av Eu KU lK oP Lc bW bQ bU cA ce cN cJ b0 dI dw dv w_
   rintro ⟨aA,aB,aC,aD,aw,aE,aF,aJ,aL,aQ,al,ao,⟨M,cs7,b8,e7,e8,k8,k9,k11,k1,hI⟩⟩
   obtain rfl:=al gx
   have Nx:=aQ fj
   rw [lK,oP,fj,aY] at hI
   obtain ⟨va,vn,vc,hv9⟩:=Inv.rowSlice hI 3 rfl
   refine el hI 2 (n:=1) (by rw [hv9]; rfl) (by decide +kernel) rfl (by simp) (by rw [hv9]; simp [Value.cells,Value.oneCell']) fun w_ hI=>?_
   have hcl9:Value.cells bQ=#[bQ]:=by rw [hv9]; rfl
   rw [hcl9] at hI
   have k1:=fun (_:ay D 11 11=true)=>mv
   have k11:=fun (_:ay D 11 11=true)=>fj
   have hI:Inv w [] (bv (.blk b1 (.cells #[.int .i64 c0.head.kind,.int .i64 c0.head.n,.string c0.head.name,kv,.slice (some ⟨b,o,none⟩) c0.body.length cap] aR)) (.blk b2 (.cells #[.int .i64 0,.int .i64 0,.string ⟨#[]⟩,.slice none 0 0,.slice none 0 0] aR)) (.blk b3 (.cells #[.int .i64 c0.head.kind,.int .i64 c0.head.n,.string c0.head.name,kh,kvc] aR)) (.blk b3 (.cells #[.int .i64 c0.head.kind,.int .i64 c0.head.n,.string c0.head.name,kh,bQ] aR)) (bj kvc ab 4 css) (bj bQ ab 4 (css++[cs7])) (bP (N::Ls).flatten) M (.blk b8 (.cells cs7.toArray ab)) (D 7) (D 8) (D 9) true) S w_:=by
    rw [lK,oP,fj]
    exact hI
   exact ⟨aA,aB,aC,aD,aw,aE,aF,aJ,aL,aQ,al,fun _=>trivial,⟨M,cs7,b8,e7,e8,k8,k9,k11,k1,hI⟩⟩
  intro D fi fp jt gK fT fY fE fm fw fF fC fD bW bQ bU cA ce cN cJ b0 dI dw dv w_
  rintro ⟨aA,aB,aC,aD,aw,aE,aF,aJ,aL,aQ,al,ao,⟨M,cs7,b8,e7,e8,k8,k9,k11,k1,hI⟩⟩
  obtain rfl:=al fp
  have Nx:=aQ jt
  have MZ:=aL gK
  have K6:=aJ fT
  obtain rfl:=aF fY
  obtain rfl:=aE fE
  obtain rfl:=aw fm
  obtain rfl:=aD fw
  obtain rfl:=aC fF
  obtain rfl:=aB fC
  obtain rfl:=aA fD
  clear aA aB aC aD aw aE aF aJ aL aQ al ao
  obtain ⟨_,hT⟩:=e7 fT
  rw [fT,gK,jt,fi] at hI
  refine bL (by omega) ?_
  refine ⟨⟨j+1,bQ,Ls++[M],css++[cs7],hj',rfl,?_,?_⟩,by simp [intOf]; omega⟩
  ·rw [List.take_succ_eq_append_getElem hj']
   exact hg.snoc hT hT.length
  ·rw [<- List.cons_append,List.flatten_append,eZ]
   simp only [List.flatten_cons,List.flatten_nil,List.append_nil]
   refine hI.sub ?_
   simp only [bv,List.flatten_cons]
   rw [<- List.append_assoc]
   exact (((List.sublist_append_left _ _).cons_cons _).cons_cons _).cons_cons _ |>.cons_cons _
 ·have:j=c0.body.length:=by omega
  subst this
  rw [List.take_length] at hg
  obtain ⟨va,vn,vc,hvk⟩:=hI.rowSlice 3 rfl
  have hv1:kvc.oneCell'=true:=by rw [hvk]; rfl
  have o1:kh.oneCell'=true:=hT1.one kh (by simp)
  refine ba hI 2 bF rfl rfl ?_
  refine bf hI 1 rfl bF rfl rfl ?_ fun w' hI=>?_
  ·intro u hu
   have hu':u∈([.int .i64 c0.head.kind,.int .i64 c0.head.n,.string c0.head.name,kh,kvc]:List Value):=hu
   simp at hu'
   rcases hu' with rfl|rfl|rfl|rfl|rfl <;> first|rfl|exact o1|exact hv1
  refine bZ hI 1 bF rfl rfl ?_
  have hI:Inv w [] (bj kvc ab 4 css::bP (N::Ls).flatten) S w':=hI.sub (List.sublist_append_right [_,_,_] _)
  rw [List.flatten_cons,eZ] at hI
  have hI:=hI.perm (M:=bP N++(bj kvc ab 4 css::bP Ls.flatten)) (List.perm_middle)
  obtain ⟨L,hT,hI⟩:=Inv.rowTree hI hg
  exact ⟨_,_,_,rfl,hI,Ext.refl _ _ _,rfl,_,N++L,rfl,by rw [eZ],_,kvc,N,L,rfl,rfl,hT1,hT⟩
end

end Go.Proofs.YtemmhhdnlbmicaaGreat

/- append of a whole slice that is only read to a row of the function's own. -/
namespace Go.Proofs.YtemmhhdnlbmicaaGreat
open Go Go.RowKit
section
variable {P:Program} {w w0:World} {X:List Nat} {L:List Item} {S:az} {K:Value->World->Prop}
theorem Kj (h:Inv w0 X L S w) {T ty e:TypeId} {k by_ n cp:Nat} {z v:Value} {cs:List Bool} {xs:List Value} {a:Option Addr} (i:Nat)
  (hT:oG P T=some (e,k,by_,z)) (hi:L[i]?=some (.row v e k n xs)) (hk:K v w) :
  Run P (ar .append #[T,T] ty cs [v,.slice a 0 cp]) w K:=by
 obtain ⟨hu,inf,hi',hz,hs,hb,hzs⟩:=il hT
 have hown:=h.its _ (List.mem_of_getElem? hi)
 simp only [Item.holds] at hown
 refine Run.of (v:=v) (w':=w) ?_ hk
 rcases hown.2 with ⟨rfl,rfl⟩|⟨g,cap,cur,rfl,_,hg,hnc,hcm,hcs,ht⟩
 ·cases a <;> simp [ar,builtin,Builtin.append_,run_underlying hu,sizeOf,typeInfo,hi',Builtin.lenOf,Builtin.firstCells,loadCells,loadCellsFrom]
 ·cases a <;> simp [ar,builtin,Builtin.append_,run_underlying hu,sizeOf,typeInfo,hi',storeCells,hnc,Builtin.lenOf,Builtin.firstCells,loadCells,loadCellsFrom]
end

end Go.Proofs.YtemmhhdnlbmicaaGreat

/- Rows of clauses that are only read: grown, joined, copied. -/
namespace Go.Proofs.YtemmhhdnlbmicaaGreat
open Go Go.RowKit

structure Rows {α:Type} (k:Nat) (R:List Value->α->Prop) (css:List (List Value)) (ys:List α):Prop where
 hc:css.length=ys.length
 hk:∀ cs∈css,cs.length=k
 hR:∀ i (h:i<ys.length) (h1:i<css.length),R css[i] ys[i]
theorem Rows.nil {α:Type} (k:Nat) (R:List Value->α->Prop):Rows k R [] ([]:List α):=⟨rfl,by simp,fun i h=>by simp at h⟩
theorem Rows.snoc {α:Type} {k:Nat} {R:List Value->α->Prop} {css:List (List Value)} {ys:List α} (h:Rows k R css ys) {cs:List Value} {y:α} (hR:R cs y) (hl:cs.length=k):Rows k R (css++[cs]) (ys++[y]):=by
 refine ⟨by simp [h.hc],fun c hc=>?_,fun i h0 h2=>?_⟩
 ·rcases List.mem_append.1 hc with hc|hc
  ·exact h.hk c hc
  ·simp at hc; subst hc; exact hl
 ·have e2:=h.hc
  by_cases hi:i<ys.length
  ·rw [List.getElem_append_left (by omega),List.getElem_append_left hi]
   exact h.hR i hi (by omega)
  ·have:i=ys.length:=by simp at h0; omega
   subst this
   rw [List.getElem_append_right (by omega),List.getElem_append_right (by omega)]
   simp only [e2,Nat.sub_self,List.getElem_cons_zero]
   exact hR
theorem Rows.append {α:Type} {k:Nat} {R:List Value->α->Prop} {css css':List (List Value)} {ys ys':List α} (h:Rows k R css ys) (h':Rows k R css' ys'):Rows k R (css++css') (ys++ys'):=by
 have e:=h.hc
 have e':=h'.hc
 refine ⟨by simp [e,e'],fun c hc=>?_,fun i h0 h2=>?_⟩
 ·rcases List.mem_append.1 hc with hc|hc
  ·exact h.hk c hc
  ·exact h'.hk c hc
 ·by_cases hi:i<ys.length
  ·rw [List.getElem_append_left (by omega),List.getElem_append_left hi]
   exact h.hR i hi (by omega)
  ·have hi':i - css.length<ys'.length:=by simp at h0; omega
   rw [List.getElem_append_right (by omega),List.getElem_append_right (by omega)]
   have:=h'.hR (i - css.length) hi' (by omega)
   simpa only [e] using this
theorem RowRd.rows {α:Type} {S:az} {v:Value} {e:TypeId} {k:Nat} {R:List Value->α->Prop} {css:List (List Value)} {ys:List α} (hr:Rows k R css ys) (h:RowRd S v e k css.length css.flatten):RdSl S k R v ys:=by
 obtain ⟨hl,h⟩:=h
 have hcy:=hr.hc
 rcases h with ⟨rfl,h0⟩|⟨g,cap,cur,rfl,hS,hnc,hcm,hcs,ht⟩
 ·have:ys=[]:=List.eq_nil_of_length_eq_zero (by omega)
  subst this
  exact ⟨none,0,rfl,Nat.le_refl _,Nat.zero_le _,.inl rfl⟩
 ·refine ⟨_,cap,by rw [hcy],by omega,hcm,.inr ⟨g,0,cur,e,(0,0),rfl,hS,fun i hi=>?_⟩⟩
  have:=jP k css i hr.hk (by omega)
  have hik:i * k+k<=css.length * k:=by rw [<- Nat.succ_mul]; exact Nat.mul_le_mul_right k (by omega)
  rw [<- ht,List.drop_take,List.take_take,Nat.min_eq_left (by omega)] at this
  rw [bu,Nat.zero_add,this]
  exact hr.hR i hi (by omega)
theorem kA {k:Nat}:∀ {css:List (List Value)},(∀ cs∈css,cs.length=k)->css.flatten.length=css.length * k
 | [],_=>by simp
 | c::css,h=>by
  have:=kA (css:=css) fun cs hc=>h cs (List.mem_cons_of_mem _ hc)
  rw [List.flatten_cons,List.length_append,h c (List.mem_cons_self ..),this,List.length_cons,Nat.succ_mul,Nat.add_comm]
section
variable {P:Program} {w w0:World} {X:List Nat} {L:List Item} {S:az} {K:Value->World->Prop}
attribute [local irreducible] Run CondV aj bd
/- append(row, other row...) -/
end
end Go.Proofs.YtemmhhdnlbmicaaGreat

/- Reslicing; a read slice joined to a row. -/
namespace Go.Proofs.YtemmhhdnlbmicaaGreat
open Go Go.RowKit

theorem gu {P:Program} {T e:TypeId} {k:Nat} (h:dA P T=some (e,k)):P.underlying T=some (.slice e)/\∃ i,P.info? e=some i/\i.size=k:=by
 unfold dA at h
 split at h
 ·rename_i e1 he
  rw [Option.map_eq_some_iff] at h
  obtain ⟨i,hi,hx⟩:=h
  simp only [Prod.mk.injEq] at hx
  obtain ⟨rfl,rfl⟩:=hx
  exact ⟨he,i,hi,rfl⟩
 ·cases h
section
variable {P:Program} {w:World} {K:Value->World->Prop}
attribute [local irreducible] Run
theorem pG {n y:Nat} {code:BoundsCode} (h:n<=y):(Instr.sliceBound (.int .i64 n) y code).run P w=.ok n w:=by
 have h1:(0:Int)<=(n:Int)/\(n:Int)<=(y:Int):=by omega
 simp [Instr.sliceBound,asIntOf,h]
theorem IO {T ty e:TypeId} {k h len cap:Nat} {a:Option Addr} (hT:dA P T=some (e,k)) (hh:h<=cap) (hk:K (.slice (if cap=0 then a else a.map (·.add (0 * k))) h cap) w) :
  Run P (sOp (.slice T (.const (.slice a len cap)) none (some (.const (.int .i64 h))) none) ty) w K:=by
 obtain ⟨hu,i,hi,_⟩:=gu hT
 refine Run.of ?_ hk
 simp [sOp,execOp,ev0,evE,Instr.sliceAt,Instr.slice,Instr.sliceBounds,run_underlying hu,pG hh,sizeOf,typeInfo,hi]
theorem y4 {T ty e:TypeId} {k l len cap:Nat} {a:Option Addr} (hT:dA P T=some (e,k)) (hl:l<=len) (hk:K (.slice (if cap=l then a else a.map (·.add (l * k))) (len - l) (cap - l)) w) :
  Run P (sOp (.slice T (.const (.slice a len cap)) (some (.const (.int .i64 l))) none none) ty) w K:=by
 obtain ⟨hu,i,hi,hs⟩:=gu hT
 refine Run.of ?_ hk
 simp [sOp,execOp,ev0,evE,Instr.sliceAt,Instr.slice,Instr.sliceBounds,run_underlying hu,pG hl,sizeOf,typeInfo,hi,hs]
end
theorem RdSl.to {α:Type} {S:az} {k:Nat} {R:List Value->α->Prop} {a:Option Addr} {cap n h:Nat} {xs:List α} (hx:RdSl S k R (.slice a n cap) xs) (hh:h<=xs.length) :
  RdSl S k R (.slice (if cap=0 then a else a.map (·.add (0 * k))) h cap) (xs.take h):=by
 obtain ⟨a',cap',e,hl,hc,hx⟩:=hx
 simp only [Value.slice.injEq] at e
 obtain ⟨rfl,rfl,rfl⟩:=e
 have e1:(if cap=0 then a else a.map (·.add (0 * k)))=a:=by
  split
  ·rfl
  ·cases a <;> simp [Addr.add]
 rw [e1]
 have e2:h=(xs.take h).length:=by rw [List.length_take]; omega
 refine ⟨a,cap,by rw [<- e2],by omega,hc,?_⟩
 rcases hx with rfl|⟨b,o,c,E,fz,rfl,hS,hR⟩
 ·left; simp
 ·right
  refine ⟨b,o,c,E,fz,rfl,hS,fun i hi=>?_⟩
  rw [List.getElem_take]
  exact hR i (by omega)
theorem RdSl.from {α:Type} {S:az} {k:Nat} {R:List Value->α->Prop} {a:Option Addr} {cap n l:Nat} {xs:List α} (hx:RdSl S k R (.slice a n cap) xs) (hl:l<=xs.length) :
  RdSl S k R (.slice (if cap=l then a else a.map (·.add (l * k))) (n - l) (cap - l)) (xs.drop l):=by
 obtain ⟨a',cap',e,hlc,hc,hx⟩:=hx
 simp only [Value.slice.injEq] at e
 obtain ⟨rfl,rfl,rfl⟩:=e
 refine ⟨_,cap - l,by rw [List.length_drop],by rw [List.length_drop]; omega,by omega,?_⟩
 by_cases hd:xs.drop l=[]
 ·exact .inl hd
 ·rcases hx with rfl|⟨b,o,c,E,fz,rfl,hS,hR⟩
  ·simp at hd
  ·right
   have hlt:l<xs.length:=by
    rcases Nat.lt_or_ge l xs.length with h|h
    ·exact h
    ·exact absurd (List.drop_eq_nil_of_le h) hd
   refine ⟨b,o+l * k,c,E,fz,?_,hS,fun i hi=>?_⟩
   ·rw [if_neg (by omega)]
    simp [Addr.add]
   ·rw [List.getElem_drop]
    have:=hR (l+i) (by simp at hi; omega)
    rwa [Nat.add_mul,<- Nat.add_assoc] at this
section
variable {P:Program} {w w0:World} {X:List Nat} {L:List Item} {S:az} {K:Value->World->Prop}
attribute [local irreducible] Run CondV aj bd
theorem KN {α:Type} {R:List Value->α->Prop} {xs:List α} {v:Value} {T ty e:TypeId} {k h:Nat} (hT:dA P T=some (e,k)) (hx:RdSl S k R v xs) (hh:h<=xs.length)
  (hk:∀ v',RdSl S k R v' (xs.take h)->K v' w):Run P (sOp (.slice T (.const v) none (some (.const (.int .i64 h))) none) ty) w K:=by
 obtain ⟨a,cap,rfl,hl,hc,hx'⟩:=id hx
 exact IO hT (by omega) (hk _ (hx.to hh))
theorem wn {α:Type} {R:List Value->α->Prop} {xs:List α} {v:Value} {T ty e:TypeId} {k l:Nat} (hT:dA P T=some (e,k)) (hx:RdSl S k R v xs) (hl:l<=xs.length)
  (hk:∀ v',RdSl S k R v' (xs.drop l)->K v' w):Run P (sOp (.slice T (.const v) (some (.const (.int .i64 l))) none none) ty) w K:=by
 obtain ⟨a,cap,rfl,hl',hc,hx'⟩:=id hx
 exact y4 hT hl (hk _ (hx.from hl))
end
theorem RdSl.exact {α:Type} {S:az} {k:Nat} {R:List Value->α->Prop} {v:Value} {ys:List α} (h:RdSl S k R v ys) (hk:∀ cs y,R cs y->cs.length=k) :
  ∃ ds:List {cs:List Value // cs.length=k},RdSl S k (fun cs d=>cs=d.val) v ds/\Rows k R (ds.map (·.val)) ys:=by
 obtain ⟨a,cap,rfl,hl,hc,hx⟩:=h
 rcases hx with rfl|⟨b,o,c,E,fz,rfl,hS,hR⟩
 ·exact ⟨[],⟨a,cap,rfl,hl,hc,.inl rfl⟩,Rows.nil _ _⟩
 ·refine ⟨List.ofFn fun i:Fin ys.length=>⟨bu c (o+i.val * k) k,hk _ _ (hR i.val i.isLt)⟩,⟨_,cap,by rw [List.length_ofFn],by rw [List.length_ofFn]; exact hl,hc,.inr ⟨b,o,c,E,fz,rfl,hS,fun i hi=>by simp⟩⟩,⟨by simp,fun cs hcs=>?_,fun i h1 h2=>?_⟩⟩
  ·obtain ⟨d,_,rfl⟩:=List.mem_map.1 hcs
   exact d.property
  ·simp only [List.getElem_map,List.getElem_ofFn]
   exact hR i h1
section
variable {P:Program} {w w0:World} {X:List Nat} {L:List Item} {S:az} {K:Value->World->Prop}
attribute [local irreducible] Run CondV aj bd
theorem jU {α:Type} {R:List Value->α->Prop} (h:Inv w0 X L S w) {T ty e:TypeId} {k by_:Nat} {z v u:Value} {cs:List Bool} {css:List (List Value)} {ys:List α} (i:Nat)
  (hT:oG P T=some (e,k,by_,z)) (hk0:0<k) (hi:L[i]?=some (bj v e k css)) (hr:RdSl S k R u ys) (hlen:∀ cs y,R cs y->cs.length=k) (h1:∀ cs y,R cs y->∀ c∈cs,c.oneCell'=true)
  (hfit:css.length+ys.length<=4294967296) (hby:by_<=32768) (hk:∀ v' w' css2,Rows k R css2 ys->Inv w0 X (L.set i (bj v' e k (css++css2))) S w'->K v' w') :
  Run P (ar .append #[T,T] ty cs [v,u]) w K:=by
 obtain ⟨ds,hd,hR⟩:=hr.exact hlen
 have hdl:ds.length=ys.length:=by have:=hR.hc; simpa using this
 have hone:∀ d∈ds,∀ c∈d.val,c.oneCell'=true:=by
  intro d hd' c hc
  obtain ⟨j,hj,rfl⟩:=List.mem_iff_getElem.1 hd'
  have:=hR.hR j (by omega) (by simpa using hj)
  simp only [List.getElem_map] at this
  exact h1 _ _ this c hc
 obtain ⟨a,cap,rfl,hl',hc',hx⟩:=id hd
 have e1:∀ v',Item.row v' e k (css.length+ds.length) (css.flatten++(ds.map (·.val)).flatten)=bj v' e k (css++ds.map (·.val)):=fun v'=>by simp [bj]
 rcases hx with rfl|⟨b,o,c,E,fz,rfl,hS,hel⟩
 ·refine Kj h i hT hi (hk v w [] (by simpa using hR) ?_)
  have:L.set i (bj v e k (css++[]))=L:=by
   obtain ⟨hlt,e'⟩:=List.getElem?_eq_some_iff.1 hi
   rw [List.append_nil,<- e',List.set_getElem_self]
  rw [this]
  exact h
 ·have hfl:(ds.map (·.val)).flatten.length=ds.length * k:=by
   rw [kA (k:=k) (fun cs hcs=>by obtain ⟨d,_,rfl⟩:=List.mem_map.1 hcs; exact d.property),List.length_map]
  refine fo h i (ds.map (·.val)).flatten hT hk0 hi hfl ?_ ?_ (by omega) hby fun v' w' hI=>hk _ _ _ hR ?_
  ·intro j u hj
   have hj':j<ds.length * k:=by
    rw [<- hfl]
    exact (List.getElem?_eq_some_iff.1 hj).1
   have hq:j / k<ds.length:=(Nat.div_lt_iff_lt_mul hk0).2 hj'
   have hcell:=hel (j / k) hq
   have hflat:=jP k (ds.map (·.val)) (j / k) (fun cs hcs=>by obtain ⟨d,_,rfl⟩:=List.mem_map.1 hcs; exact d.property) (by simpa using hq)
   have hdm:=Nat.div_add_mod j k
   rw [Nat.mul_comm] at hdm
   rw [h.cellS hS]
   have e2:(ds.map (·.val)).flatten[j]?=(ds[j / k].val)[j % k]?:=by
    rw [List.getElem_map] at hflat
    rw [<- hflat,List.getElem?_take,if_pos (Nat.mod_lt _ hk0),List.getElem?_drop]
    congr 1
    omega
   rw [e2] at hj
   have:=bm hcell (j % k) u hj
   rw [<- this]
   congr 1
   omega
  ·intro u hu
   obtain ⟨cs,hcs,hu⟩:=List.mem_flatten.1 hu
   obtain ⟨d,hd',rfl⟩:=List.mem_map.1 hcs
   exact hone d hd' u hu
  ·rw [<- e1]
   exact hI
end

end Go.Proofs.YtemmhhdnlbmicaaGreat

/- Plain functions: texts of terms and clauses, and how texts are read. Fuel runs out: none. -/
namespace Go.Proofs.YtemmhhdnlbmicaaGreat
open Go Go.RowKit

abbrev Bs:=List UInt8
abbrev bs (s:ByteArray):Bs:=s.data.toList
abbrev st (l:Bs):ByteArray:=⟨l.toArray⟩
theorem NU (s:ByteArray):st (bs s)=s:=rfl
theorem CZ (l:Bs):bs (st l)=l:=by simp [bs]
theorem lh (l:Bs):(st l).size=l.length:=by simp [ByteArray.size]

def sgn (s:Bs) (i:Nat) (c:Nat):Bool:=match s[i]? with
 | some b=>decide (b.toNat=c)
 | none=>false
def btw (s:Bs) (i:Nat) (a b:Nat):Bool:=match s[i]? with
 | some x=>decide (a<=x.toNat) && decide (x.toNat<=b)
 | none=>false
def sml (s:Bs) (i:Nat):Bool:=btw s i 97 122
def dig (s:Bs) (i:Nat):Bool:=btw s i 48 57
def upp (s:Bs) (i:Nat):Bool:=btw s i 65 90
def cut (s:Bs) (a b:Nat):Bs:=(s.take b).drop a

def xT (s:Bs):Nat->Nat->Nat
 | 0,e=>e
 | n+1,e=>if sml s e=true then xT s n (e+1) else e
def h8 (s:Bs) (i:Nat):List ByteArray->Bs->Bs
 | [],b=>b
 | x::l,b=>h8 s i l (if decide (i+x.size<=s.length)=true/\cut s i (i+x.size)=bs x/\b.length<x.size then bs x else b)
def nj (s:Bs) (i:Nat):Option (Bs × Nat):=
 let e:=xT s (s.length - i) i
 if i+6<e then none else if i<e then some (cut s i e,e) else
  let b:=h8 s i signs []
  if b=[] then none else some (b,i+b.length)
def pP (s:Bs):Nat->Nat->Nat
 | 0,e=>e
 | n+1,e=>if dig s e=true then pP s n (e+1) else e
def Cj:Bs->Nat->Nat
 | [],n=>n
 | b::l,n=>Cj l (n * 10+(b.toNat - 48))
def LS (s:Bs) (i:Nat):Option (T × Nat):=
 let from_:=if sgn s i 45=true then i+1 else i
 let e:=pP s 4 from_
 let d:=cut s from_ e
 let n:=Cj d 0
 if d=[] ∨ (sgn d 0 48=true/\1<d.length) ∨ (i<from_/\n=0) ∨ 999<n then none
 else some (.mk 2 (if i<from_ then -(n:Int) else n) emptyB [],e)
def xL (name:Bs) (kids:List T):T:=.mk 3 0 (st name) kids
def Nl:T:=xL [91,93] []
def FX (a b:T):T:=xL [46] [a,b]
def iw:List T->T->T
 | [],t=>t
 | a::l,t=>FX a (iw l t)
def opF (s:Bs) (i:Nat):Option (Bs × Nat):=
 let from_:=if sgn s i 32=true then i+1 else i
 if s.length<=from_ then none else match nj s from_ with
  | none=>none
  | some (name,next)=>
   let word:=decide (name=[105,115]) || decide (name=[109,111,100])
   if dj (st name)=0 ∨ word≠decide (i<from_) ∨ (word=true/\sgn s next 32=false) then none
   else some (name,if word=true then next+1 else next)
mutual
def iP:Nat->Bs->Nat->Nat->Nat->Option (T × Nat)
 | 0,_,_,_,_=>none
 | f+1,s,i,d,0=>rv f s i d
 | f+1,s,i,d,l+1=>match iP f s i d l with
  | none=>none
  | some (t,n)=>Gy f s n d l t
def Gy:Nat->Bs->Nat->Nat->Nat->T->Option (T × Nat)
 | 0,_,_,_,_,_=>none
 | f+1,s,i,d,l,t=>match opF s i with
  | none=>some (t,i)
  | some (name,after)=>if dj (st name)=((l+1:Nat):Int) then match iP f s after d l with
    | none=>none
    | some (r,e)=>if l=2 then some (xL name [t,r],e) else Gy f s e d l (xL name [t,r])
   else some (t,i)
def rv:Nat->Bs->Nat->Nat->Option (T × Nat)
 | 0,_,_,_=>none
 | f+1,s,i,d=>if d=0 ∨ s.length<=i then none else if sgn s i 40=true then match iP f s (i+1) d 3 with
    | none=>none
    | some (t,n)=>if sgn s n 41=true then some (t,n+1) else none
  else if sgn s i 91=true/\sgn s (i+1) 93=false then match gU f s (i+1) (d - 1) 93 124 [] with
    | none=>none
    | some (ts,n)=>if sgn s n 93=true then some (iw ts Nl,n+1) else match iP f s (n+1) (d - 1) 3 with
     | none=>none
     | some (t,e)=>if sgn s e 93=true then some (iw ts t,e+1) else none
  else if upp s i=true then some (.mk 1 ((s.getD i 0).toNat - 65) emptyB [],i+1)
  else if dig s i=true ∨ (sgn s i 45=true/\dig s (i+1)=true) then LS s i
  else match nj s i with
   | none=>none
   | some (name,n)=>if sgn s n 40=false then some (xL name [],n) else match gU f s (n+1) (d - 1) 41 41 [] with
    | none=>none
    | some (ts,e)=>some (xL name ts,e+1)
def gU:Nat->Bs->Nat->Nat->Nat->Nat->List T->Option (List T × Nat)
 | 0,_,_,_,_,_,_=>none
 | f+1,s,i,d,e,o,acc=>match iP f s i d 3 with
  | none=>none
  | some (t,n)=>if sgn s n e=true ∨ sgn s n o=true then some (acc++[t],n) else if sgn s n 44=true then gU f s (n+1) d e o (acc++[t]) else none
end

/- texts -/
def mP (t:T):Bool:=decide (t.kind=3) && (decide (t.kids.length=2) && decide (0<dj t.name))
def tG (t:T):Bool:=decide (t.kind=3) && (decide (t.name=st [46]) && decide (t.kids.length=2))
def Mz (t:T):Bool:=decide (t.kind=3) && (decide (t.name=st [91,93]) && decide (t.kids.length=0))
def wj (t:T):Bool:=decide (t.kind=3) && (decide (t.kids.length=0) && decide (0<dj t.name))
def ET (s:Bs):Bool:=sml s 0 || (dig s 0 || (upp s 0 || (sgn s 0 91 || sgn s 0 40)))
def g7 (n:Bs):Bs:=if n=[105,115] ∨ n=[109,111,100] then 32::(n++[32]) else n
def Cs:Nat->Nat->Bs->Option Bs
 | 0,_,_=>none
 | f+1,n,out=>if 9<n then Cs f (n / 10) (UInt8.ofNat (48+n % 10)::out) else some (UInt8.ofNat (48+n)::out)
def NH (n:Int):Option Bs:=if n<0 then (Cs 20 (-n).toNat []).map fun l=>45::l else Cs 20 n.toNat []
def JX (t:T):Option Bs:=if t.kind=1 then (if 0<=t.n/\t.n<=25 then some [UInt8.ofNat (65+t.n.toNat)] else none)
 else if t.kind=2 then (if -999<=t.n/\t.n<=999 then NH t.n else none) else if t.kids.length=0 then some (bs t.name) else none
mutual
def Fa:Nat->T->Option Bs
 | 0,_=>none
 | f+1,t=>if tG t=true then C1 f t [] else if mP t=true then match t.kids with
   | [a,b]=>match JG f a (if dj t.name=3 then 2 else dj t.name),Fd f b (dj t.name - 1) with
    | some x,some y=>some (x++g7 (bs t.name)++y)
    | _,_=>none
   | _=>none
  else if t.kind=3/\0<t.kids.length then match ni f t.kids [] with
   | some x=>some (bs t.name++[40]++x++[41])
   | none=>none
  else JX t
def C1:Nat->T->List T->Option Bs
 | 0,_,_=>none
 | f+1,t,items=>if tG t=true then match t.kids with
   | [a,b]=>C1 f b (items++[a])
   | _=>none
  else match ni f items [] with
   | none=>none
   | some x=>if Mz t=true then some ([91]++x++[93]) else match Fa f t with
    | none=>none
    | some y=>some ([91]++x++[124]++y++[93])
def ni:Nat->List T->Bs->Option Bs
 | 0,_,_=>none
 | _+1,[],out=>some out
 | f+1,t::l,out=>match Fa f t with
  | none=>none
  | some x=>ni f l (out++x++(if l=[] then [] else [44]))
def o5:Nat->T->Int->Option Bs
 | 0,_,_=>none
 | f+1,t,l=>match Fa f t with
  | none=>none
  | some x=>some (if mP t=true/\l<dj t.name then [40]++x++[41] else x)
def JG:Nat->T->Int->Option Bs
 | 0,_,_=>none
 | f+1,t,l=>if wj t=true then match Fa f t with
   | none=>none
   | some x=>some ([40]++x++[41])
  else o5 f t l
def Fd:Nat->T->Int->Option Bs
 | 0,_,_=>none
 | f+1,t,l=>match o5 f t l with
  | none=>none
  | some x=>if x=[] then none else some (if wj t=true ∨ ET x=false then [40]++x++[41] else x)
end
def wN (f:Nat):List T->Bool->Bs->Option Bs
 | [],_,out=>some out
 | t::l,first,out=>match Fa f t with
  | none=>none
  | some x=>wN f l false (out++(if first=true then [58,45] else [44])++x)
def Jz (f:Nat) (c:C):Option Bs:=match Fa f c.head with
 | none=>none
 | some x=>match wN f c.body true x with
  | none=>none
  | some y=>some (y++[46])

/- clauses and programs -/
def rj (f:Nat):Nat->Bs->Nat->List T->Option (List T × Nat)
 | 0,_,_,_=>none
 | k+1,s,i,acc=>if 6<acc.length then none else match iP f s i 30 3 with
  | none=>none
  | some (t,n)=>if sgn s n 44=true then rj f k s (n+1) (acc++[t]) else some (acc++[t],n)
def KZ (f:Nat) (s:Bs) (c:C) (n:Nat):Option C:=
 if n+1=s.length/\sgn s n 46=true/\dD c=true/\wC c<=200/\Jz f c=some s then some c else none
def tz (f:Nat) (s:Bs):Option C:=if 1000<s.length then none else match iP f s 0 30 3 with
 | none=>none
 | some (h,n)=>if sgn s n 58=true/\sgn s (n+1) 45=true then match rj f 8 s (n+2) [] with
   | none=>none
   | some (b,n2)=>KZ f s ⟨h,b⟩ n2
  else KZ f s ⟨h,[]⟩ n
def Cp (s:Bs) (c:Nat):Nat->Nat->Nat->List Bs->List Bs
 | 0,i,from_,acc=>acc++[cut s from_ i]
 | n+1,i,from_,acc=>if sgn s i c=true then Cp s c n (i+1) (i+1) (acc++[cut s from_ i]) else Cp s c n (i+1) from_ acc
def LB (s:Bs):List Bs:=Cp s 10 s.length 0 0 []
def kj (f:Nat):List Bs->List C->Option (List C)
 | [],acc=>some acc
 | l::ls,acc=>match tz f l with
  | none=>none
  | some c=>kj f ls (acc++[c])
def JK (f:Nat) (s:Bs):Option (List C):=
 let ls:=LB s
 if 21<ls.length ∨ ls.getLast?≠some [] then none else kj f ls.dropLast []
def L7 (s:Bs):Bool:=match JK 60 s with
 | some p=>decide (0<p.length) && (decide (p.length<=8) && p.all fun c=>dD c && decide (wC c<=200))
 | none=>false
end Go.Proofs.YtemmhhdnlbmicaaGreat

/- More rules: arithmetic, conversions, texts joined and cut. -/
namespace Go.Proofs.YtemmhhdnlbmicaaGreat
open Go Go.RowKit
section
variable {P:Program} {w w0:World} {X:List Nat} {L:List Item} {S:az} {K:Value->World->Prop}
theorem zy {T:TypeId} {cx cy:Bool} {k:IntKind} {a b:Int} (h:a<b) (hk:K (.bool true) w):Run P (aq .lss T cx cy (.int k a) (.int k b)) w K:=by
 refine bR ?_
 rw [decide_eq_true h]
 exact hk
theorem eD {T:TypeId} {cx cy:Bool} {k:IntKind} {a b:Int} (h:¬ (a<b)) (hk:K (.bool false) w):Run P (aq .lss T cx cy (.int k a) (.int k b)) w K:=by
 refine bR ?_
 rw [decide_eq_false h]
 exact hk
theorem zS {T:TypeId} {cx cy:Bool} {k:IntKind} {a b:Int} (h:a<=b) (hk:K (.bool true) w):Run P (aq .leq T cx cy (.int k a) (.int k b)) w K:=by
 refine fK ?_
 rw [decide_eq_true h]
 exact hk
theorem Ma {T:TypeId} {cx cy:Bool} {k:IntKind} {a b:Int} (h:¬ (a<=b)) (hk:K (.bool false) w):Run P (aq .leq T cx cy (.int k a) (.int k b)) w K:=by
 refine fK ?_
 rw [decide_eq_false h]
 exact hk
theorem Ih {T:TypeId} {cx cy:Bool} {k:IntKind} {a b:Int} (h:b<a) (hk:K (.bool true) w):Run P (aq .gtr T cx cy (.int k a) (.int k b)) w K:=by
 refine d6 ?_
 rw [decide_eq_true h]
 exact hk
theorem ki {T:TypeId} {cx cy:Bool} {k:IntKind} {a b:Int} (h:¬ (b<a)) (hk:K (.bool false) w):Run P (aq .gtr T cx cy (.int k a) (.int k b)) w K:=by
 refine d6 ?_
 rw [decide_eq_false h]
 exact hk
theorem lu {T:TypeId} {cx cy:Bool} {k:IntKind} {a b:Int} (h:b<=a) (hk:K (.bool true) w):Run P (aq .geq T cx cy (.int k a) (.int k b)) w K:=by
 refine nh ?_
 rw [decide_eq_true h]
 exact hk
theorem pa {T:TypeId} {cx cy:Bool} {k:IntKind} {a b:Int} (h:¬ (b<=a)) (hk:K (.bool false) w):Run P (aq .geq T cx cy (.int k a) (.int k b)) w K:=by
 refine nh ?_
 rw [decide_eq_false h]
 exact hk
theorem fM {T:TypeId} {cx cy:Bool} {k:IntKind} {a b:Int} (h:a=b) (hk:K (.bool true) w):Run P (aq .eql T cx cy (.int k a) (.int k b)) w K:=by
 refine bO ?_
 rw [decide_eq_true h]
 exact hk
theorem er {T:TypeId} {cx cy:Bool} {k:IntKind} {a b:Int} (h:¬ (a=b)) (hk:K (.bool false) w):Run P (aq .eql T cx cy (.int k a) (.int k b)) w K:=by
 refine bO ?_
 rw [decide_eq_false h]
 exact hk
theorem CQ {T:TypeId} {cx cy:Bool} {a b:Int} (hr:-9223372036854775808<=a * b/\a * b<=9223372036854775807) (hk:K (.int .i64 (a * b)) w):Run P (aq .mul T cx cy (.int .i64 a) (.int .i64 b)) w K:=
 Run.of (by simp [aq,dK,binOp,Op.intArith,IntWalk.i64_in _ hr]) hk
theorem Np {T:TypeId} {cx cy:Bool} {a b:Nat} (hb:0<b) (ha:a<=9223372036854775807) (hk:K (.int .i64 ((a / b:Nat):Int)) w):Run P (aq .quo T cx cy (.int .i64 (a:Int)) (.int .i64 (b:Int))) w K:=by
 refine Run.of ?_ hk
 have h0:¬ ((b:Int)=0):=by omega
 have h1:IntKind.i64.wrap ((a:Int).tdiv b)=((a / b:Nat):Int):=by
  rw [IntWalk.i64_quo _ _ (by omega)]; rfl
 simp only [aq,dK,binOp,Op.intDiv,Sem.run_bind,Result.andThen_ok,if_neg h0,Sem.run_pure]
 exact congrArg (fun v=>Result.ok (Next.value (.int .i64 v)) w) h1
theorem HT {T:TypeId} {cx cy:Bool} {a b:Nat} (hb:0<b) (hk:K (.int .i64 ((a % b:Nat):Int)) w):Run P (aq .rem T cx cy (.int .i64 (a:Int)) (.int .i64 (b:Int))) w K:=by
 refine Run.of ?_ hk
 have h1:(a:Int).tmod b=((a % b:Nat):Int):=by
  rw [IntWalk.rem_in _ _ (by omega)]; rfl
 have h0:¬ ((b:Int)=0):=by omega
 simp only [aq,dK,binOp,Op.intDiv,Sem.run_bind,Result.andThen_ok,if_neg h0,Sem.run_pure]
 exact congrArg (fun v=>Result.ok (Next.value (.int .i64 v)) w) h1
theorem NB {T:TypeId} {cx cy:Bool} {a b:Nat} (ha:a<4611686018427387904) (hb:b<4611686018427387904) (hk:K (.int .i64 ((a ^^^ b:Nat):Int)) w):Run P (aq .xor T cx cy (.int .i64 (a:Int)) (.int .i64 (b:Int))) w K:=by
 refine Run.of ?_ hk
 have hx:a ^^^ b<2 ^ 62:=Nat.xor_lt_two_pow (by simpa using ha) (by simpa using hb)
 have e1:(BitVec.ofInt 64 (a:Int)).toNat=a:=by rw [BitVec.toNat_ofInt]; omega
 have e2:(BitVec.ofInt 64 (b:Int)).toNat=b:=by rw [BitVec.toNat_ofInt]; omega
 have h1:IntKind.i64.wrap ((BitVec.ofInt 64 (a:Int) ^^^ BitVec.ofInt 64 (b:Int)).toNat:Int)=((a ^^^ b:Nat):Int):=by
  rw [BitVec.toNat_xor,e1,e2]
  exact IntWalk.i64_in _ (by omega)
 simp only [aq,dK,binOp,Op.intBits,Sem.run_bind,Result.andThen_ok,Sem.run_pure]
 exact congrArg (fun v=>Result.ok (Next.value (.int .i64 v)) w) h1
theorem Nr {T:TypeId} {cx cy:Bool} {k:IntKind} {a b c:Int} (hr:k.wrap (a+b)=c) (hk:K (.int k c) w):Run P (aq .add T cx cy (.int k a) (.int k b)) w K:=
 Run.of (by simp [aq,dK,binOp,Op.intArith,hr]) hk
theorem HO {T:TypeId} {cx cy:Bool} {k:IntKind} {a b c:Int} (hr:k.wrap (a - b)=c) (hk:K (.int k c) w):Run P (aq .sub T cx cy (.int k a) (.int k b)) w K:=
 Run.of (by simp [aq,dK,binOp,Op.intArith,hr]) hk
theorem mx {src dst ty:TypeId} {k k':IntKind} {n m:Int} {d:TypeDesc} (hs:P.underlying src=some d) (hd:P.underlying dst=some (.int k')) (hr:k'.wrap n=m) (hk:K (.int k' m) w) :
  Run P (sOp (.convert src dst (.const (.int k n))) ty) w K:=by
 refine Run.of ?_ hk
 simp [sOp,execOp,ev0,evE,convert,run_underlying hs,run_underlying hd,Conv.intToInt,hr]
theorem Nf {T ty:TypeId} {n:Int} (hr:-9223372036854775808<=-n/\-n<=9223372036854775807) (hk:K (.int .i64 (-n)) w):Run P (sOp (.unOp .neg T (.const (.int .i64 n))) ty) w K:=
 Run.of (by simp [sOp,execOp,ev0,evE,Op.unary,Op.intArith,Int.zero_sub,IntWalk.i64_in _ hr]) hk
theorem ND (a b:Bs):st a++st b=st (a++b):=by
 apply ByteArray.ext
 simp [st]
theorem dO {T:TypeId} {cx cy:Bool} {a b:Bs} (hl:a.length+b.length<=9223372036854775807) (hk:K (.string (st (a++b))) w):Run P (aq .add T cx cy (.string (st a)) (.string (st b))) w K:=by
 refine Run.of ?_ hk
 have h1:¬ (9223372036854775807<(((st a).size+(st b).size:Nat):Int)):=by rw [lh,lh]; omega
 have h2:IntKind.i64.max=9223372036854775807:=by decide
 simp only [aq,binOp,Op.stringOp,Sem.run_bind,iW,Result.andThen_ok,gt_iff_lt,h2,if_neg h1,Sem.run_pure,ND]
theorem NJ (s:Bs) (a b:Nat):(st s).extract a b=st (cut s a b):=by
 apply ByteArray.ext
 apply Array.toList_inj.1
 simp [cut,ByteArray.data_extract,List.drop_take]
theorem za {T ty:TypeId} {s:Bs} {a b:Nat} (hu:P.underlying T=some .string) (hab:a<=b) (hb:b<=s.length) (hk:K (.string (st (cut s a b))) w) :
  Run P (sOp (.slice T (.const (.string (st s))) (some (.const (.int .i64 a))) (some (.const (.int .i64 b))) none) ty) w K:=by
 refine Run.of ?_ hk
 have hb':b<=(st s).size:=by rw [lh]; exact hb
 simp [sOp,execOp,ev0,evE,Instr.sliceAt,Instr.slice,Instr.sliceBounds,run_underlying hu,pG hab,pG hb',NJ]
/- a byte out of a text -/
theorem ec {T ty:TypeId} {s:Bs} {i:Nat} (hu:P.underlying T=some .string) (hi:i<s.length) (hk:K (.int .u8 s[i].toNat) w) :
  Run P (sOp (.index T (.const (.string (st s))) (.const (.int .i64 i))) ty) w K:=by
 have hi':i<(st s).size:=by rw [lh]; exact hi
 refine ko hu hi' ?_
 have:(st s)[i]=s[i]:=by simp [st,ByteArray.getElem_eq_getElem_data]
 rw [this]
 exact hk
theorem fA {T ty:TypeId} {cs:List Bool} {s:Bs} (hu:P.underlying T=some .string) (hk:K (.int .i64 s.length) w):Run P (ar .len #[T] ty cs [.string (st s)]) w K:=by
 refine iQ hu ?_
 rw [lh]
 exact hk
theorem zE {T:TypeId} {cx cy:Bool} {a b:Bs} (hk:K (.bool (decide (a=b))) w):Run P (aq .eql T cx cy (.string (st a)) (.string (st b))) w K:=by
 refine cL ?_
 have:decide (st a=st b)=decide (a=b):=by
  rw [decide_eq_decide]
  exact ⟨fun h=>by rw [<- CZ a,h,CZ],fun h=>by rw [h]⟩
 rw [this]
 exact hk
theorem JB {T:TypeId} {cx cy:Bool} {a b:Bs} (hk:K (.bool (!decide (a=b))) w):Run P (aq .neq T cx cy (.string (st a)) (.string (st b))) w K:=by
 refine rC ?_
 have:decide (st a=st b)=decide (a=b):=by
  rw [decide_eq_decide]
  exact ⟨fun h=>by rw [<- CZ a,h,CZ],fun h=>by rw [h]⟩
 rw [this]
 exact hk
/- string([]byte{x}) -/
theorem yY (h:Inv w0 X L S w) {T T' D ty e:TypeId} {by_:Nat} {z:Value} {n:Nat} (hT:oG P T=some (e,1,by_,z)) (he:P.underlying T'=some (.slice e)) (hb:P.underlying e=some (.int .u8)) (hD:P.underlying D=some .string)
  (hk:∀ w',Inv w0 X L S w'->K (.string (st [UInt8.ofNat n])) w') :
  Run P (aS T 1 [(0,.int .u8 (n:Int))]) w fun u w'=>Run P (sOp (.convert T' D (.const u)) ty) w' K:=by
 refine fb h hT rfl (by omega) (by omega) fun b w' hI=>?_
 have hi:(L++[Item.blk b (.cells (Value.int .u8 (n:Int)).cells e)])[L.length]?=some (.blk b (.cells (Value.int .u8 (n:Int)).cells e)):=by
  rw [List.getElem?_append_right (Nat.le_refl _),Nat.sub_self]; rfl
 have hc:w'.cell? ⟨b,0,none⟩=some (.int .u8 (n:Int)):=by rw [hI.cellL hi]; rfl
 have hl:=run_loadCells_list (P:=P) (w:=w') ⟨b,0,none⟩ [.int .u8 (n:Int)] (fun j v hj=>by
  match j with
  | 0=>simp only [List.getElem?_cons_zero,Option.some.injEq] at hj; subst hj; rw [f4]; exact hc
  | j+1=>simp at hj)
 simp only [List.length_cons,List.length_nil] at hl
 refine Run.of (w':=w') ?_ (hk _ (hI.sub (List.sublist_append_left _ _)))
 simp [sOp,execOp,ev0,evE,convert,run_underlying he,run_underlying hb,run_underlying hD,Conv.bytesToString,hl,st]
 rfl
end
end Go.Proofs.YtemmhhdnlbmicaaGreat
