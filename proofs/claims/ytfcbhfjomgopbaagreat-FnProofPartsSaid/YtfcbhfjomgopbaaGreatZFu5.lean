/- Trees grown by append; impl.own and its kin. -/
import Derived.Test.YtfcbhfjomgopbaaGreatZFu4
import Derived.Test.YtfcbhfjomgopbaaGreatZFu2
import Derived.Test.YtfcbhfjomgopbaaGreatZFu3
namespace Go.Proofs.YtfcbhfjomgopbaaGreat
section
open Go Go.RowKit

structure Grown {α:Type} (k:Nat) (R:bh->List Value->α->Prop) (Ls:List bh) (css:List (List Value)) (ys:List α):Prop where
 hL:Ls.length=ys.length
 hc:css.length=ys.length
 hk:∀ cs∈css,cs.length=k
 hR:∀ i (h:i<ys.length) (h1:i<Ls.length) (h2:i<css.length),R Ls[i] css[i] ys[i]
theorem Grown.nil {α:Type} (k:Nat) (R:bh->List Value->α->Prop):Grown k R [] [] ([]:List α):=⟨rfl,rfl,by simp,fun i h=>by simp at h⟩
theorem Grown.snoc {α:Type} {k:Nat} {R:bh->List Value->α->Prop} {Ls:List bh} {css:List (List Value)} {ys:List α} (h:Grown k R Ls css ys) {L:bh} {cs:List Value} {y:α} (hR:R L cs y) (hl:cs.length=k) :
  Grown k R (Ls++[L]) (css++[cs]) (ys++[y]):=by
 refine ⟨by simp [h.hL],by simp [h.hc],fun c hc=>?_,fun i h0 h1 h2=>?_⟩
 ·rcases List.mem_append.1 hc with hc|hc
  ·exact h.hk c hc
  ·simp at hc; subst hc; exact hl
 ·have e1:=h.hL
  have e2:=h.hc
  by_cases hi:i<ys.length
  ·rw [List.getElem_append_left (by omega),List.getElem_append_left (by omega),List.getElem_append_left hi]
   exact h.hR i hi (by omega) (by omega)
  ·have:i=ys.length:=by simp at h0; omega
   subst this
   rw [List.getElem_append_right (by omega),List.getElem_append_right (by omega),List.getElem_append_right (by omega)]
   simp only [e1,e2,Nat.sub_self,List.getElem_cons_zero]
   exact hR
theorem gW (k:Nat):∀ (css:List (List Value)) (i:Nat) (_:∀ cs∈css,cs.length=k) (h:i<css.length),(css.flatten.drop (i * k)).take k=css[i]
 | [],i,_,h=>by simp at h
 | c::css,0,hk,_=>by
  have:=hk c (List.mem_cons_self ..)
  rw [List.flatten_cons,Nat.zero_mul,List.drop_zero,List.take_append_of_le_length (by omega),List.take_of_length_le (by omega)]
  rfl
 | c::css,i+1,hk,h=>by
  have:=hk c (List.mem_cons_self ..)
  rw [List.flatten_cons,Nat.succ_mul,Nat.add_comm,<- List.drop_drop,List.drop_left' this]
  exact gW k css i (fun cs hc=>hk cs (List.mem_cons_of_mem _ hc)) (by simpa using h)
abbrev aK (v:Value) (e:TypeId) (k:Nat) (css:List (List Value)):Item:=.row v e k css.length css.flatten
theorem Inv.rowTree {α:Type} {w0 w:World} {X:List Nat} {A:List Item} {S:ae} {v:Value} {e:TypeId} {k:Nat} {R:bh->List Value->α->Prop} {Ls:List bh} {css:List (List Value)} {ys:List α}
  (h:Inv w0 X (A++(aK v e k css::bt Ls.flatten)) S w) (hg:Grown k R Ls css ys):∃ L,TrSl k R L v ys/\Inv w0 X (A++bt L) S w:=by
 have hp:List.Perm ((A++bt Ls.flatten)++[aK v e k css]) (A++(aK v e k css::bt Ls.flatten)):=by
  rw [List.append_assoc]
  exact List.Perm.append_left _ List.perm_append_comm
 obtain ⟨hl,ho⟩:=(h.perm hp).openRow
 have hcy:=hg.hc
 have hLy:=hg.hL
 rcases ho with ⟨rfl,h0⟩|⟨g,cap,cur,rfl,hnc,hcm,hcs,ht,hI⟩
 ·have:ys=[]:=List.eq_nil_of_length_eq_zero (by omega)
  subst this
  refine ⟨[],TrSl.nil (by simp [maxLen]),?_⟩
  simpa [bt] using h.sub (List.sublist_append_left _ _)
 ·by_cases hy:ys=[]
  ·subst hy
   have:css=[]:=List.eq_nil_of_length_eq_zero (by simpa using hcy)
   subst this
   refine ⟨[],TrSl.nil hcm,?_⟩
   simpa [bt] using h.sub (List.sublist_append_left _ _)
  ·refine ⟨(g,.cells cur e)::Ls.flatten,⟨_,cap,by rw [hcy],by omega,hcm,.inr ⟨g,cur,e,Ls,rfl,rfl,hLy,by omega,fun i h1 h2=>?_⟩⟩,?_⟩
   ·have hik:i * k+k<=css.length * k:=by rw [<- Nat.succ_mul]; exact Nat.mul_le_mul_right k (by omega)
    have:=gW k css i hg.hk (by omega)
    rw [<- ht,List.drop_take,List.take_take,Nat.min_eq_left (by omega)] at this
    rw [aH,this]
    exact hg.hR i h1 h2 (by omega)
   ·refine hI.perm ?_
    rw [List.append_assoc]
    exact List.Perm.append_left _ (List.perm_append_comm (l₁:=[Item.blk g (.cells cur e)]))
theorem gB (v:Value) (e:TypeId) (k:Nat) (css:List (List Value)) (cs:List Value):Item.row v e k (css.length+1) (css.flatten++cs)=aK v e k (css++[cs]):=by
 simp [aK]
section
variable {P:Program} {w w0:World} {X:List Nat} {L:List Item} {S:ae} {K:Value->World->Prop}
attribute [local irreducible] Run CondV aB aS
theorem dZ (h:Inv w0 X L S w) {T ty e:TypeId} {k by_:Nat} {z v:Value} {cs:List Bool} {css:List (List Value)} (i:Nat) (xs:List Value)
  (hT:fN P T=some (e,k,by_,z)) (hk0:0<k) (hk24:k<=65536) (hi:L[i]?=some (aK v e k css)) (hl:xs.length=k) (h1:∀ u∈xs,u.oneCell'=true) (hfit:css.length+1<=4294967296) (hby:by_<=32768)
  {K:Value->Value->World->Prop} (hk:∀ v' w',Inv w0 X (L.set i (aK v' e k (css++[xs]))) S w'->K (.slice (some ⟨w.heap.size,0,none⟩) 1 1) v' w') :
  Run P (bA T 1 [(0,.agg xs.toArray)]) w fun u w'=>Run P (bI .append #[T,T] ty cs [v,u]) w' (K u):=by
 refine rF h hT (by simp [Value.cells,hl]) hk24 hk0 fun w' hI=>?_
 have hil:i<L.length:=(List.getElem?_eq_some_iff.1 hi).1
 refine eU hI i xs hT hk0 (by rw [List.getElem?_append_left hil]; exact hi) (by omega) (m:=1) (o:=0) ?_ h1 hfit hby fun v' w' hI=>?_
 ·intro j u hj
  rw [hI.cellL (i:=L.length) (by rw [List.getElem?_append_right (Nat.le_refl _),Nat.sub_self]; rfl)]
  rw [Nat.zero_add]
  simpa [Value.cells] using hj
 ·refine hk _ _ ?_
  rw [<- gB]
  rw [List.set_append_left _ _ hil] at hI
  exact hI.sub (List.sublist_append_left _ _)
end

section
attribute [local irreducible] Run CondV aB aS
end
end
section
open Go Go.RowKit
section
variable {w:World} {K:Value->World->Prop}
attribute [local irreducible] Run
theorem mx {a b:Int} {s:ByteArray} {k:Value} (hk:K (.agg #[.int .i64 a,.int .i64 b,.string s,k,.slice none 0 0]) w):Run Tryz.prog (bX aw [(0,.agg #[.int .i64 a,.int .i64 b,.string s,k])]) w K:=by
 refine Run.of (v:=.agg #[.int .i64 a,.int .i64 b,.string s,k,.slice none 0 0]) (w':=w) ?_ hk
 unfold bX
 rw [Sem.run_bind,run_build w aw _ #[.int .i64 a,.int .i64 b,.string s,k,.slice none 0 0] (by kernel_rfl),Result.andThen_ok]
 rfl
theorem gj {a b:Int} {s:ByteArray} (hk:K (.agg #[.int .i64 a,.int .i64 b,.string s,.slice none 0 0]) w):Run Tryz.prog (bX ab [(0,.int .i64 a),(1,.int .i64 b),(2,.string s)]) w K:=by
 refine Run.of (v:=.agg #[.int .i64 a,.int .i64 b,.string s,.slice none 0 0]) (w':=w) ?_ hk
 unfold bX
 rw [Sem.run_bind,run_build w ab _ #[.int .i64 a,.int .i64 b,.string s,.slice none 0 0] (by kernel_rfl),Result.andThen_ok]
 rfl
end
section
attribute [local irreducible] Run CondV aB aS
end
end
section
open Go Go.RowKit
theorem RdC.one {S:ae} {cs:List Value} {c:C} (h:RdC S cs c):∀ u∈cs,u.oneCell'=true:=by
 obtain ⟨hd,ks,rfl,h1,a,cap,rfl,_⟩:=h
 intro u hu
 rcases List.mem_append.1 hu with hu|hu
 ·exact h1.one u hu
 ·simp at hu; subst hu; rfl
section
attribute [local irreducible] Run CondV aB aS
theorem Inv.rowSlice {w0 w:World} {X:List Nat} {L:List Item} {S:ae} {v:Value} {e:TypeId} {k n:Nat} {xs:List Value} (h:Inv w0 X L S w) (i:Nat) (hi:L[i]?=some (.row v e k n xs)):∃ a m c,v=.slice a m c:=by
 have hm:w.ownsRow 0 e k v n xs:=h.its (.row v e k n xs) (List.mem_of_getElem? hi)
 rcases hm.2 with ⟨rfl,_⟩|⟨g,cap,cur,rfl,_⟩
 ·exact ⟨_,_,_,rfl⟩
 ·exact ⟨_,_,_,rfl⟩
def bi (B1 B2 B3 B3' r r':Item) (rest:List Item) (M:bh) (B27:Item) (d7 d8 d9 d11:Bool):List Item:=
 B1::B2::(match d11 with|true=>B3'|false=>B3)::(match d9 with|true=>r'|false=>r)::(rest++((match d7 with|true=>bt M|false=>[])++(match d8 with|true=>[B27]|false=>[])))

theorem eL:∀ (t:T) (S:ae) (cs:List Value),RdT S cs t->wT t<=1048576->Tri Tryz.prog uf [.agg cs.toArray] [] S (FH S t):=by
 refine T.ind fun k n s ks ih S cs h hw=>?_
 intro w hI
 obtain ⟨kv,rfl,h1,h2,hs,hks⟩:=RdT.iff.1 h
 simp only [T.name,T.kids,T.kind,T.n] at h1 h2 hs hks ⊢
 simp only [wT] at hw
 refine ml.2 ?_
 dsimp only[ml,aL]
 refine bf hI fun b1 w' hI=>?_
 refine aD hI aQ fun b2 w' hI=>?_
 refine ad hI 0 rfl aE av rfl ?_
 refine ad hI 0 rfl aM av rfl ?_
 refine ad hI 0 rfl aO aJ rfl ?_
 refine gj ?_
 refine aD hI aQ fun b3 w' hI=>?_
 refine aq hI 2 rfl ac rfl rfl (by simp [Value.oneCell']) fun w' hI=>?_
 have hI:=hI.rowNil ab 4
 refine ⟨fun i w'=>∃ (j:Nat) (kvc:Value) (Ls:List bh) (css:List (List Value)),j<=ks.length/\i=.int .i64 j/\Grown 4 TrT Ls css (ks.take j)/\
   Inv w [] (.blk b1 (.cells #[.int .i64 k,.int .i64 n,.string s,kv] ab)::.blk b2 (.cells #[.int .i64 0,.int .i64 0,.string ⟨#[]⟩,.slice none 0 0] ab)::.blk b3 (.cells #[.int .i64 k,.int .i64 n,.string s,kvc] ab)::aK kvc ab 4 css::bt Ls.flatten) S w',
  fun i _=>ks.length - (intOf i).toNat,⟨0,_,[],[],Nat.zero_le _,rfl,Grown.nil _ _,hI⟩,?_⟩
 intro t4 _ _ _ _ _ _ _ _ _ _ _ _ _ _ _ _ _ _ w'
 rintro ⟨j,kvc,Ls,css,hj,rfl,hg,hI⟩
 refine ad hI 0 rfl al ah rfl ?_
 refine aC hks af ?_
 refine bq ?_
 refine aI (fun hji=>?_) (fun hji=>?_)
 ·have hj':j<ks.length:=by omega
  have hjl:(ks.take j).length=j:=by simp; omega
  have hcl:=hg.hc
  have hm:=List.getElem_mem hj'
  have hwm:=lD hm
  obtain ⟨b,o,cap,c,E,fz,rfl,hS,hR⟩:=hks.at_ hj'
  refine ⟨fun D jM gI lq lw fT j4 pw og lR jN lM w_=>Fx D 0 [lM=.pointer (some ⟨b3,3,none⟩),jN=kvc,lR=.pointer (some ⟨b1,3,none⟩),og=.slice (some ⟨b,o,none⟩) (ks).length cap,pw=.int .i64 j,j4=.pointer (some ⟨b,o+j * 4,none⟩),fT=.agg (aH c (o+j * 4) 4).toArray,True,True,True,jM=.pointer (some ⟨b3,3,none⟩),True]/\∃ M cs7 b8,(D 7=true->lw=.agg cs7.toArray/\TrT M cs7 (ks)[j])/\(D 8=true->lq=.slice (some ⟨b8,0,none⟩) 1 1)/\(D 8=true->D 7=true)/\(D 9=true->D 8=true)/\(D 11=true->D 9=true)/\(D 11=true->D 1=true)/\Inv w [] (bi (.blk b1 (.cells #[.int .i64 k,.int .i64 n,.string s,.slice (some ⟨b,o,none⟩) ks.length cap] ab)) (.blk b2 (.cells #[.int .i64 0,.int .i64 0,.string ⟨#[]⟩,.slice none 0 0] ab)) (.blk b3 (.cells #[.int .i64 k,.int .i64 n,.string s,kvc] ab)) (.blk b3 (.cells #[.int .i64 k,.int .i64 n,.string s,gI] ab)) (aK kvc ab 4 css) (aK gI ab 4 (css++[cs7])) (bt Ls.flatten) M (.blk b8 (.cells cs7.toArray ab)) (D 7) (D 8) (D 9) (D 11)) S w_,⟨Fx.nil _ _,⟨[],[],0,aV,aV,aV,aV,aV,aV,by simpa [bi,bt] using hI.draw⟩⟩,⟨?_,?_,?_,?_,?_,?_,?_,?_,?_,?_,?_,?_,trivial⟩,?_⟩
  all_goals (intro D bn; intros; rename_i jM gI lq lw fT j4 pw og lR jN lM w_ hA_; have hF_:=hA_.1; obtain ⟨⟨bR,bQ,bG,bS,bU,bB,bD,cq,ci,cL,bH,bT,_⟩,⟨M,cs7,b8,e7,e8,k8,k9,k11,k1,hI⟩⟩:=hA_)
  ·refine ai al ?_
   exact ⟨hF_.set 0 rfl,⟨M,cs7,b8,e7,e8,k8,k9,k11,k1,hI⟩⟩
  ·obtain rfl:=bR ‹_›
   have f11:D 11=false:=Bool.eq_false_iff.2 fun h=>by rw [k1 h] at bn; cases bn
   refine aA (b:=b3) hI 2 (c:=(#[.int .i64 k,.int .i64 n,.string s,kvc])) ah (by rw [f11]; rfl) rfl ?_
   have k1:=fun (_:aG D 1 11=true)=>(rfl:aG D 1 1=true)
   exact ⟨hF_.set 1 rfl,⟨M,cs7,b8,e7,e8,k8,k9,k11,k1,hI⟩⟩
  ·refine ai al ?_
   exact ⟨hF_.set 2 rfl,⟨M,cs7,b8,e7,e8,k8,k9,k11,k1,hI⟩⟩
  ·obtain rfl:=bG ‹_›
   refine aA hI 0 ah rfl rfl ?_
   exact ⟨hF_.set 3 rfl,⟨M,cs7,b8,e7,e8,k8,k9,k11,k1,hI⟩⟩
  ·exact ⟨hF_.set 4 rfl,⟨M,cs7,b8,e7,e8,k8,k9,k11,k1,hI⟩⟩
  ·obtain rfl:=bS ‹_›
   obtain rfl:=bU ‹_›
   refine ar af hj' ?_
   exact ⟨hF_.set 5 rfl,⟨M,cs7,b8,e7,e8,k8,k9,k11,k1,hI⟩⟩
  ·obtain rfl:=bB ‹_›
   refine bE ac hR.length (fun j v hj=>by rw [hI.cellS hS]; exact au rfl j v hj) ?_
   exact ⟨hF_.set 6 rfl,⟨M,cs7,b8,e7,e8,k8,k9,k11,k1,hI⟩⟩
  ·obtain rfl:=bD ‹_›
   have f8:D 8=false:=Bool.eq_false_iff.2 fun h=>by rw [k8 h] at bn; cases bn
   have f9:D 9=false:=Bool.eq_false_iff.2 fun h=>by rw [k9 h] at f8; cases f8
   have f11:D 11=false:=Bool.eq_false_iff.2 fun h=>by rw [k11 h] at f9; cases f9
   rw [bn,f8,f9,f11] at hI
   refine Run.call0 eh er hI (ih _ (List.getElem_mem hj') S _ hR (by omega)) fun v' I' S w_=>?_
   rintro ⟨rfl,cs7,M,rfl,rfl,hT⟩ _ hI
   have e7:aG D 7 7=true->Value.agg cs7.toArray=Value.agg cs7.toArray/\TrT M cs7 (ks)[j]:=fun _=>⟨rfl,hT⟩
   have k8:=fun (_:aG D 7 8=true)=>(rfl:aG D 7 7=true)
   have hI:Inv w [] (bi (.blk b1 (.cells #[.int .i64 k,.int .i64 n,.string s,.slice (some ⟨b,o,none⟩) ks.length cap] ab)) (.blk b2 (.cells #[.int .i64 0,.int .i64 0,.string ⟨#[]⟩,.slice none 0 0] ab)) (.blk b3 (.cells #[.int .i64 k,.int .i64 n,.string s,kvc] ab)) (.blk b3 (.cells #[.int .i64 k,.int .i64 n,.string s,gI] ab)) (aK kvc ab 4 css) (aK gI ab 4 (css++[cs7])) (bt Ls.flatten) M (.blk b8 (.cells cs7.toArray ab)) true (D 8) (D 9) (D 11)) S w_:=by
    rw [f8,f9,f11]
    simpa [bi] using hI
   exact ⟨hF_.set 7 (by first|assumption|trivial),⟨M,cs7,b8,e7,e8,k8,k9,k11,k1,hI⟩⟩
  ·have AO:=cq ‹_›
   have f9:D 9=false:=Bool.eq_false_iff.2 fun h=>by rw [k9 h] at bn; cases bn
   have f11:D 11=false:=Bool.eq_false_iff.2 fun h=>by rw [k11 h] at f9; cases f9
   obtain ⟨q7,hT⟩:=e7 ‹D 7=true›
   subst q7
   rw [‹D 7=true›,bn,f9,f11] at hI
   refine dT hI bp (by simp [Value.cells,hT.length]) (by omega) (by omega) fun b8 w_ hI=>?_
   have e7:aG D 8 7=true->Value.agg cs7.toArray=Value.agg cs7.toArray/\TrT M cs7 (ks)[j]:=fun _=>⟨rfl,hT⟩
   have e8:=fun (_:aG D 8 8=true)=>(rfl:Value.slice (some ⟨b8,0,none⟩) 1 1=_)
   have k8:=fun (_:aG D 8 8=true)=>‹D 7=true›
   have k9:=fun (_:aG D 8 9=true)=>(rfl:aG D 8 8=true)
   have hI:Inv w [] (bi (.blk b1 (.cells #[.int .i64 k,.int .i64 n,.string s,.slice (some ⟨b,o,none⟩) ks.length cap] ab)) (.blk b2 (.cells #[.int .i64 0,.int .i64 0,.string ⟨#[]⟩,.slice none 0 0] ab)) (.blk b3 (.cells #[.int .i64 k,.int .i64 n,.string s,kvc] ab)) (.blk b3 (.cells #[.int .i64 k,.int .i64 n,.string s,gI] ab)) (aK kvc ab 4 css) (aK gI ab 4 (css++[cs7])) (bt Ls.flatten) M (.blk b8 (.cells cs7.toArray ab)) (D 7) true (D 9) (D 11)) S w_:=by
    rw [‹D 7=true›,f9,f11]
    simpa [bi,Value.cells] using hI
   exact ⟨hF_.set 8 (by first|assumption|trivial),⟨M,cs7,b8,e7,e8,k8,k9,k11,k1,hI⟩⟩
  ·obtain rfl:=bQ ‹_›
   have Dt:=ci ‹_›
   have f11:D 11=false:=Bool.eq_false_iff.2 fun h=>by rw [k11 h] at bn; cases bn
   have q8:=e8 ‹D 8=true›
   subst q8
   obtain ⟨_,hT⟩:=e7 ‹D 7=true›
   rw [‹D 7=true›,‹D 8=true›,bn,f11] at hI
   have hblk:((bi (.blk b1 (.cells #[.int .i64 k,.int .i64 n,.string s,.slice (some ⟨b,o,none⟩) ks.length cap] ab)) (.blk b2 (.cells #[.int .i64 0,.int .i64 0,.string ⟨#[]⟩,.slice none 0 0] ab)) (.blk b3 (.cells #[.int .i64 k,.int .i64 n,.string s,jN] ab)) (.blk b3 (.cells #[.int .i64 k,.int .i64 n,.string s,gI] ab)) (aK jN ab 4 css) (aK gI ab 4 (css++[cs7])) (bt Ls.flatten) M (.blk b8 (.cells cs7.toArray ab)) true true false false))[4+(bt Ls.flatten).length+(bt M).length]?=some (.blk b8 (.cells cs7.toArray ab)):=by
    have e4:4+(bt Ls.flatten).length+(bt M).length=((bt Ls.flatten).length+(bt M).length)+1+1+1+1:=by omega
    rw [e4]
    simp only [bi,List.getElem?_cons_succ]
    rw [List.getElem?_append_right (by omega),Nat.add_sub_cancel_left,List.getElem?_append_right (Nat.le_refl _),Nat.sub_self]; rfl
   refine eU hI 3 cs7 bp (by omega) rfl (by rw [hT.length]) (m:=1) (o:=0) ?_ hT.one (by omega) (by omega) fun v' w_ hI=>?_
   ·intro i u hi
    rw [hI.cellL hblk,Nat.zero_add]
    simpa using hi
   rw [gB] at hI
   have k9:=fun (_:aG D 9 9=true)=>‹D 8=true›
   have k11:=fun (_:aG D 9 11=true)=>(rfl:aG D 9 9=true)
   have hI:Inv w [] (bi (.blk b1 (.cells #[.int .i64 k,.int .i64 n,.string s,.slice (some ⟨b,o,none⟩) ks.length cap] ab)) (.blk b2 (.cells #[.int .i64 0,.int .i64 0,.string ⟨#[]⟩,.slice none 0 0] ab)) (.blk b3 (.cells #[.int .i64 k,.int .i64 n,.string s,jN] ab)) (.blk b3 (.cells #[.int .i64 k,.int .i64 n,.string s,v'] ab)) (aK jN ab 4 css) (aK v' ab 4 (css++[cs7])) (bt Ls.flatten) M (.blk b8 (.cells cs7.toArray ab)) (D 7) (D 8) true (D 11)) S w_:=by
    rw [‹D 7=true›,‹D 8=true›,f11]
    exact hI
   exact ⟨hF_.set 9 (by first|assumption|trivial),⟨M,cs7,b8,e7,e8,k8,k9,k11,k1,hI⟩⟩
  ·refine ai al ?_
   exact ⟨hF_.set 10 rfl,⟨M,cs7,b8,e7,e8,k8,k9,k11,k1,hI⟩⟩
  ·obtain rfl:=bH ‹_›
   have H9:=cL ‹_›
   rw [‹D 7=true›,‹D 8=true›,‹D 9=true›,bn] at hI
   obtain ⟨va,vn,vc,hv9⟩:=Inv.rowSlice hI 3 rfl
   refine dA hI 2 (n:=1) (by rw [hv9]; rfl) (by decide +kernel) rfl (by simp) (by rw [hv9]; simp [Value.cells,Value.oneCell']) fun w_ hI=>?_
   have hcl9:Value.cells gI=#[gI]:=by rw [hv9]; rfl
   rw [hcl9] at hI
   have k1:=fun (_:aG D 11 11=true)=>‹D 1=true›
   have k11:=fun (_:aG D 11 11=true)=>‹D 9=true›
   have hI:Inv w [] (bi (.blk b1 (.cells #[.int .i64 k,.int .i64 n,.string s,.slice (some ⟨b,o,none⟩) ks.length cap] ab)) (.blk b2 (.cells #[.int .i64 0,.int .i64 0,.string ⟨#[]⟩,.slice none 0 0] ab)) (.blk b3 (.cells #[.int .i64 k,.int .i64 n,.string s,kvc] ab)) (.blk b3 (.cells #[.int .i64 k,.int .i64 n,.string s,gI] ab)) (aK kvc ab 4 css) (aK gI ab 4 (css++[cs7])) (bt Ls.flatten) M (.blk b8 (.cells cs7.toArray ab)) (D 7) (D 8) (D 9) true) S w_:=by
    rw [‹D 7=true›,‹D 8=true›,‹D 9=true›]
    exact hI
   exact ⟨hF_.set 11 trivial,⟨M,cs7,b8,e7,e8,k8,k9,k11,k1,hI⟩⟩
  obtain ⟨rfl,rfl,rfl,rfl,rfl,rfl,rfl,AO,Dt,H9,rfl,_,_⟩:=hF_.all
  have uZ:D 7=true:=by assumption
  have A8:D 8=true:=by assumption
  have Hq:D 9=true:=by assumption
  have jV:D 11=true:=by assumption
  clear hF_ bR bQ bG bS bU bB bD cq ci cL bH bT
  obtain ⟨_,hT⟩:=e7 uZ
  rw [uZ,A8,Hq,jV] at hI
  refine bl (by omega) ?_
  refine ⟨⟨j+1,gI,Ls++[M],css++[cs7],hj',rfl,?_,?_⟩,by simp [intOf]; omega⟩
  ·rw [List.take_succ_eq_append_getElem hj']
   exact hg.snoc hT hT.length
  ·simp only [List.flatten_append,List.flatten_cons,List.flatten_nil,List.append_nil,eK]
   refine hI.sub ?_
   simp only [bi]
   rw [<- List.append_assoc]
   exact (((List.sublist_append_left _ _).cons_cons _).cons_cons _).cons_cons _ |>.cons_cons _
 ·have:j=ks.length:=by omega
  subst this
  rw [List.take_length] at hg
  obtain ⟨va,vn,vc,hvk⟩:=hI.rowSlice 3 rfl
  have hv1:kvc.oneCell'=true:=by rw [hvk]; rfl
  refine ao hI 2 ac rfl rfl ?_
  refine aq hI 1 rfl ac rfl rfl ?_ fun w' hI=>?_
  ·intro u hu
   have hu':u∈([.int .i64 k,.int .i64 n,.string s,kvc]:List Value):=hu
   simp at hu'
   rcases hu' with rfl|rfl|rfl|rfl <;> first|rfl|exact hv1
  refine aU hI 1 ac rfl rfl ?_
  have hI:Inv w [] ([]++(aK kvc ab 4 css::bt Ls.flatten)) S w':=hI.sub (List.sublist_append_right [_,_,_] _)
  obtain ⟨L,hT,hI⟩:=Inv.rowTree hI hg
  exact ⟨_,_,_,rfl,hI,Ext.refl _ _ _,rfl,_,L,rfl,rfl,TrT.iff.2 ⟨kvc,rfl,h1,h2,hs,hT⟩⟩
end
end
section
open Go Go.RowKit

def td:List Int->Int->Int->Nat->Int
 | [],_,cur,_=>cur
 | x::xs,n,cur,k=>td xs n (if x=n then (k:Int) else cur) (k+1)
mutual
def gD (vs:List Int):T->T
 | .mk k n s ks=>.mk k (if k=1 then td vs n n 0 else n) s (my vs ks)
def my (vs:List Int):List T->List T
 | []=>[]
 | t::ts=>gD vs t::my vs ts
end
theorem EL:∀ (xs:List Int) (n cur:Int) (k:Nat),td xs n cur k=cur ∨ (0<=td xs n cur k/\td xs n cur k<k+xs.length)
 | [],n,cur,k=>.inl rfl
 | x::xs,n,cur,k=>by
  rw [td]
  rcases EL xs n (if x=n then (k:Int) else cur) (k+1) with h|h
  ·split at h
   ·right; rw [if_pos (by assumption),h]; simp; omega
   ·left; rw [if_neg (by assumption)]; exact h
  ·right
   simp only [List.length_cons]
   omega
theorem JE (l:List Int) (n:Int):Im l n=true↔n∈l:=by
 simp [Im]
theorem KX {l:List Int} (n:Int) (h:l.Nodup):(Ap l n).Nodup:=by
 unfold Ap
 split
 ·exact h
 ·rename_i hn
  rw [List.nodup_append]
  refine ⟨h,by simp,fun a ha b hb e=>hn ((JE l n).2 ?_)⟩
  simp at hb
  rw [<- hb,<- e]
  exact ha
theorem OM {t:T} (h:eM t=true) (hk:t.kind=1):t.name=emptyB/\t.kids.length=0:=by
 unfold eM at h
 rw [if_pos hk] at h
 simp only [Bool.and_eq_true,decide_eq_true_eq] at h
 exact ⟨h.2.2.1,h.2.2.2⟩
theorem xO (vs:List Int):∀ ts:List T,(my vs ts).length=ts.length
 | []=>rfl
 | t::ts=>by rw [my]; simp [xO vs ts]
theorem Mm (vs:List Int) (ts:List T) (j:Nat) (h:j<ts.length):my vs (ts.take (j+1))=my vs (ts.take j)++[gD vs ts[j]]:=by
 have:∀ (xs ys:List T),my vs (xs++ys)=my vs xs++my vs ys:=by
  intro xs ys
  induction xs with
  | nil=>rfl
  | cons x xs ih=>simp [my,ih]
 rw [List.take_succ_eq_append_getElem h,this]; rfl
def UG (vs:List Int) (c:C):C:=⟨gD vs c.head,my vs c.body⟩
def Tj (c:C):List Int:=df (c.head::c.body) []
end
section
open Go Go.RowKit
mutual
def okU (N:Nat):T->Prop
 | .mk k n s ks=>k≠0/\(k=1->0<=n/\n<N/\s=emptyB/\ks=[])/\dM N ks/\s.size<=6
def dM (N:Nat):List T->Prop
 | []=>True
 | t::ts=>okU N t/\dM N ts
end
mutual
def vT:T->List Nat
 | .mk k n _ ks=>if k=1 then [n.toNat] else vTL ks
def vTL:List T->List Nat
 | []=>[]
 | t::ts=>vT t++vTL ts
end
theorem jr {N:Nat}:∀ {ts:List T},dM N ts->∀ t∈ts,okU N t
 | t::ts,h,x,hx=>by
  rw [dM] at h
  rcases List.mem_cons.1 hx with rfl|hx
  ·exact h.1
  ·exact jr h.2 x hx
theorem vG {N:Nat}:∀ {ts:List T},(∀ t∈ts,okU N t)->dM N ts
 | [],_=>by rw [dM]; trivial
 | t::ts,h=>by rw [dM]; exact ⟨h t (List.mem_cons_self ..),vG fun u hu=>h u (List.mem_cons_of_mem _ hu)⟩
theorem oP:∀ {ts:List T} {m:Nat},m∈vTL ts↔∃ t∈ts,m∈vT t
 | [],m=>by simp [vTL]
 | t::ts,m=>by rw [vTL,List.mem_append,oP]; simp
theorem okU.kids {N:Nat} {t:T} (h:okU N t):dM N t.kids:=by cases t; rw [okU] at h; exact h.2.2.1
theorem okU.var {N:Nat} {t:T} (h:okU N t) (hk:t.kind=1):0<=t.n/\t.n<N/\t.name=emptyB/\t.kids=[]:=by cases t; rw [okU] at h; exact h.2.1 hk
theorem okU.kind {N:Nat} {t:T} (h:okU N t):t.kind≠0:=by cases t; rw [okU] at h; exact h.1
theorem ii {t:T} (h:t.kind=1):vT t=[t.n.toNat]:=by cases t; rw [vT]; exact if_pos h
theorem AW {t:T} (h:t.kind≠1):vT t=vTL t.kids:=by cases t; rw [vT]; exact if_neg h
mutual
theorem O2 {N:Nat}:∀ (t:T),okU N t->∀ m∈vT t,m<N
 | .mk k n s ks,h,m,hm=>by
  rw [okU] at h
  rw [vT] at hm
  split at hm
  ·rename_i hk
   have:=h.2.1 hk
   simp at hm
   omega
  ·exact MG ks h.2.2.1 m hm
theorem MG {N:Nat}:∀ (ts:List T),dM N ts->∀ m∈vTL ts,m<N
 | [],_,m,hm=>by simp [vTL] at hm
 | t::ts,h,m,hm=>by
  rw [dM] at h
  rw [vTL,List.mem_append] at hm
  rcases hm with hm|hm
  ·exact O2 t h.1 m hm
  ·exact MG ts h.2 m hm
end
def look (st:aF) (t:T):Option T:=if t.kind=1 then (st[t.n.toNat]?).join else none
theorem cT {st:aF} {t u:T}:look st t=some u↔t.kind=1/\st[t.n.toNat]?=some (some u):=by
 unfold look
 split
 ·rename_i h
  simp only [Option.join_eq_some_iff]
  exact ⟨fun e=>⟨h,e⟩,fun e=>e.2⟩
 ·rename_i h
  simp [h]
theorem Fv {st:aF} {t:T}:look st t=none↔(t.kind=1->st[t.n.toNat]?=none ∨ st[t.n.toNat]?=some none):=by
 unfold look
 split
 ·rename_i h
  rw [Option.join_eq_none_iff]
  constructor
  ·intro e _
   rcases e with e|e
   ·exact .inl e
   ·exact .inr e
  ·intro e
   rcases e h with e|e
   ·exact .inl e
   ·exact .inr e
 ·rename_i h
  simp [h]
inductive cU (st:aF):T->T->Prop
 | stop {t:T}:look st t=none->cU st t t
 | step {t u v:T}:look st t=some u->cU st u v->cU st t v
inductive Rch (st:aF):Nat->Nat->Prop
 | refl (m:Nat):Rch st m m
 | step {m k n:Nat} {u:T}:st[m]?=some (some u)->k∈vT u->Rch st k n->Rch st m n
theorem Rch.trans {st:aF} {a b c:Nat} (h:Rch st a b) (h':Rch st b c):Rch st a c:=by
 induction h with
 | refl=>exact h'
 | step h1 h2 _ ih=>exact .step h1 h2 (ih h')
def fk (st:aF) (n:Nat) (t:T):Prop:=∃ m∈vT t,Rch st m n
structure Good (N:Nat) (st:aF):Prop where
 len:st.length=N
 ok:∀ t,some t∈st->okU N t
 w:∀ t,some t∈st->wT t<=1048576
 rk:∃ r:Nat->Nat,∀ (n:Nat) (u:T),st[n]?=some (some u)->∀ m∈vT u,r m<r n
theorem Good.look_ok {N:Nat} {st:aF} (h:Good N st) {t u:T} (hl:look st t=some u):okU N u/\wT u<=1048576:=by
 have:=List.mem_of_getElem? (cT.1 hl).2
 exact ⟨h.ok u this,h.w u this⟩
theorem dQ {N:Nat} {st:aF} {t v:T} (h:Good N st) (hw:cU st t v) (ht:okU N t/\wT t<=1048576):okU N v/\wT v<=1048576:=by
 induction hw with
 | stop=>exact ht
 | step hl _ ih=>exact ih (h.look_ok hl)
theorem iY {st:aF} {t v:T} (hw:cU st t v):look st v=none:=by
 induction hw with
 | stop h=>exact h
 | step _ _ ih=>exact ih
theorem M1 {N:Nat} {st:aF} (h:Good N st) (t:T):∃ v,cU st t v:=by
 obtain ⟨r,hr⟩:=h.rk
 have:∀ (k:Nat) (t:T),(∀ u,look st t=some u->r t.n.toNat<k)->∃ v,cU st t v:=by
  intro k
  induction k with
  | zero=>
   intro t ht
   cases hl:look st t with
   | none=>exact ⟨t,.stop hl⟩
   | some u=>have:=ht u hl; omega
  | succ k ih=>
   intro t ht
   cases hl:look st t with
   | none=>exact ⟨t,.stop hl⟩
   | some u=>
    have h1:=ht u hl
    obtain ⟨v,hv⟩:=ih u fun u' hu'=>by
     obtain ⟨hk,_⟩:=cT.1 hu'
     have:=hr _ _ (cT.1 hl).2 u.n.toNat (by rw [ii hk]; simp)
     omega
    exact ⟨v,.step hl hv⟩
 exact this (r t.n.toNat+1) t fun _ _=>Nat.lt_succ_self _
theorem Pq {st:aF} {t v:T} (hw:cU st t v) {n:Nat} (hn:∀ u,st[n]?≠some (some u)):fk st n t↔fk st n v:=by
 induction hw with
 | stop=>exact Iff.rfl
 | step hl _ ih=>
  rename_i t u v
  rw [<- ih]
  obtain ⟨hk,hs⟩:=cT.1 hl
  constructor
  ·rintro ⟨m,hm,hr⟩
   rw [ii hk,List.mem_singleton] at hm
   subst hm
   cases hr with
   | refl=>exact absurd hs (hn _)
   | step h1 h2 h3=>
    rw [hs,Option.some.injEq,Option.some.injEq] at h1
    subst h1
    exact ⟨_,h2,h3⟩
  ·rintro ⟨m,hm,hr⟩
   exact ⟨_,by rw [ii hk]; exact List.mem_singleton.2 rfl,.step hs hm hr⟩
def unb:aF->Nat
 | []=>0
 | none::st=>unb st+1
 | some _::st=>unb st
theorem uF:∀ (st:aF) (n:Nat) (t:T),st[n]?=some none->unb (st.set n (some t))+1=unb st
 | [],n,t,h=>by simp at h
 | x::st,0,t,h=>by
  simp only [List.getElem?_cons_zero,Option.some.injEq] at h
  subst h
  rfl
 | x::st,n+1,t,h=>by
  have h':st[n]?=some none:=by simpa using h
  have:=uF st n t h'
  cases x <;> simp only [List.set_cons_succ,unb] <;> omega
open Classical in
theorem Good.set {N:Nat} {st:aF} (h:Good N st) {n:Nat} {t:T} (hn:st[n]?=some none) (ht:okU N t) (hw:wT t<=1048576) (ho:¬ fk st n t):Good N (st.set n (some t)):=by
 have hnl:n<st.length:=(List.getElem?_eq_some_iff.1 hn).1
 refine ⟨by rw [List.length_set]; exact h.len,fun u hu=>?_,fun u hu=>?_,?_⟩
 ·rcases List.mem_or_eq_of_mem_set hu with hu|hu
  ·exact h.ok u hu
  ·rw [Option.some.injEq] at hu
   rw [hu]; exact ht
 ·rcases List.mem_or_eq_of_mem_set hu with hu|hu
  ·exact h.w u hu
  ·rw [Option.some.injEq] at hu
   rw [hu]; exact hw
 ·obtain ⟨r,hr⟩:=h.rk
  have hM:∀ l:List Nat,∃ M,∀ m∈l,r m<=M:=by
   intro l
   induction l with
   | nil=>exact ⟨0,by simp⟩
   | cons x l ih=>
    obtain ⟨M,hM⟩:=ih
    refine ⟨M+r x,fun m hm=>?_⟩
    rcases List.mem_cons.1 hm with rfl|hm
    ·omega
    ·have:=hM m hm; omega
  obtain ⟨M,hM⟩:=hM (vT t)
  refine ⟨fun m=>if Rch st m n then r m+M+1 else r m,fun k u hku m hm=>?_⟩
  by_cases hkn:n=k
  ·subst hkn
   rw [List.getElem?_set_self hnl,Option.some.injEq,Option.some.injEq] at hku
   subst hku
   have h1:¬ Rch st m n:=fun e=>ho ⟨m,hm,e⟩
   have h2:=hM m hm
   simp only [if_neg h1,if_pos (Rch.refl (st:=st) n)]
   omega
  ·rw [List.getElem?_set_ne hkn] at hku
   have h1:=hr k u hku m hm
   by_cases hmn:Rch st m n
   ·have h2:Rch st k n:=.step hku hm hmn
    simp only [if_pos hmn,if_pos h2]
    omega
   ·simp only [if_neg hmn]
    split <;> omega
inductive Job where
 | one (a b:T)
 | list (xs ys:List T)
inductive Uni:aF->Job->Bool->aF->Prop
 | same {st:aF} {a b a' b':T}:cU st a a'->cU st b b'->a'.kind=1->b'.kind=1->a'.n=b'.n->Uni st (.one a b) true st
 | bindA {st:aF} {a b a' b':T}:cU st a a'->cU st b b'->a'.kind=1->¬ (b'.kind=1/\a'.n=b'.n)->¬ fk st a'.n.toNat b'->Uni st (.one a b) true (st.set a'.n.toNat (some b'))
 | occA {st:aF} {a b a' b':T}:cU st a a'->cU st b b'->a'.kind=1->¬ (b'.kind=1/\a'.n=b'.n)->fk st a'.n.toNat b'->Uni st (.one a b) false st
 | bindB {st:aF} {a b a' b':T}:cU st a a'->cU st b b'->a'.kind≠1->b'.kind=1->¬ fk st b'.n.toNat a'->Uni st (.one a b) true (st.set b'.n.toNat (some a'))
 | occB {st:aF} {a b a' b':T}:cU st a a'->cU st b b'->a'.kind≠1->b'.kind=1->fk st b'.n.toNat a'->Uni st (.one a b) false st
 | clash {st:aF} {a b a' b':T}:cU st a a'->cU st b b'->a'.kind≠1->b'.kind≠1->iF a' b'=false->Uni st (.one a b) false st
 | kids {st st':aF} {a b a' b':T} {r:Bool}:cU st a a'->cU st b b'->a'.kind≠1->b'.kind≠1->iF a' b'=true->Uni st (.list a'.kids b'.kids) r st'->Uni st (.one a b) r st'
 | nil {st:aF}:Uni st (.list [] []) true st
 | stop {st st':aF} {a b:T} {xs ys:List T}:Uni st (.one a b) false st'->Uni st (.list (a::xs) (b::ys)) false st'
 | go {st st1 st':aF} {a b:T} {xs ys:List T} {r:Bool}:Uni st (.one a b) true st1->Uni st1 (.list xs ys) r st'->Uni st (.list (a::xs) (b::ys)) r st'
def okJ (N:Nat):Job->Prop
 | .one a b=>(okU N a/\wT a<=1048576)/\(okU N b/\wT b<=1048576)
 | .list xs ys=>(∀ a∈xs,okU N a/\wT a<=1048576)/\(∀ b∈ys,okU N b/\wT b<=1048576)/\xs.length=ys.length
theorem jb {N:Nat} {t:T} (h:okU N t/\wT t<=1048576):∀ x∈t.kids,okU N x/\wT x<=1048576:=by
 intro x hx
 refine ⟨jr h.1.kids x hx,?_⟩
 have h1:=lD hx
 have h2:=h.2
 cases t
 rw [wT] at h2
 simp only [T.kids] at h1
 omega
theorem qK {a b:T} (h:iF a b=true):a.kids.length=b.kids.length:=by
 rw [iF] at h
 simp only [Bool.and_eq_true,decide_eq_true_eq] at h
 exact h.2.2.2
theorem wI {N:Nat} {st:aF} (h:Good N st) {a:T} (hk:a.kind=1) (hl:look st a=none) (ho:okU N a):st[a.n.toNat]?=some none:=by
 obtain ⟨h0,h1,_⟩:=ho.var hk
 rcases Fv.1 hl hk with e|e
 ·have:=List.getElem?_eq_none_iff.1 e
  have:=h.len
  omega
 ·exact e
theorem Uni.good {N:Nat} {st st':aF} {j:Job} {r:Bool} (hu:Uni st j r st'):Good N st->okJ N j->Good N st'/\(st'=st ∨ unb st'<unb st):=by
 induction hu with
 | same=>exact fun h _=>⟨h,.inl rfl⟩
 | occA=>exact fun h _=>⟨h,.inl rfl⟩
 | occB=>exact fun h _=>⟨h,.inl rfl⟩
 | clash=>exact fun h _=>⟨h,.inl rfl⟩
 | nil=>exact fun h _=>⟨h,.inl rfl⟩
 | bindA ha hb hk hns ho=>
  rename_i a' b'
  intro h hj
  have h1:=dQ h ha hj.1
  have h2:=dQ h hb hj.2
  have hf:=wI h hk (iY ha) h1.1
  have:=uF _ _ b' hf
  exact ⟨h.set hf h2.1 h2.2 ho,.inr (by omega)⟩
 | bindB ha hb hns hk ho=>
  rename_i a' b'
  intro h hj
  have h1:=dQ h ha hj.1
  have h2:=dQ h hb hj.2
  have hf:=wI h hk (iY hb) h2.1
  have:=uF _ _ a' hf
  exact ⟨h.set hf h1.1 h1.2 ho,.inr (by omega)⟩
 | kids ha hb _ _ hd _ ih=>
  intro h hj
  exact ih h ⟨jb (dQ h ha hj.1),jb (dQ h hb hj.2),qK hd⟩
 | stop _ ih=>
  intro h hj
  exact ih h ⟨hj.1 _ (List.mem_cons_self ..),hj.2.1 _ (List.mem_cons_self ..)⟩
 | go _ _ ih1 ih2=>
  intro h hj
  obtain ⟨h1,h2⟩:=ih1 h ⟨hj.1 _ (List.mem_cons_self ..),hj.2.1 _ (List.mem_cons_self ..)⟩
  obtain ⟨h3,h4⟩:=ih2 h1 ⟨fun a ha=>hj.1 a (List.mem_cons_of_mem _ ha),fun b hb=>hj.2.1 b (List.mem_cons_of_mem _ hb),by have:=hj.2.2; simpa using this⟩
  refine ⟨h3,?_⟩
  rcases h2 with rfl|h2
  ·exact h4
  ·rcases h4 with rfl|h4
   ·exact .inr h2
   ·exact .inr (by omega)
open Classical in
theorem Hc {N:Nat}:∀ (U:Nat) (st:aF),Good N st->unb st<=U->∀ j,okJ N j->∃ r st',Uni st j r st':=by
 intro U
 induction U using Nat.strongRecOn with
 | _ U ihU=>
  intro st hg hU
  -- lists of terms of which each is known to have an answer
  have hlist:∀ (xs ys:List T),okJ N (.list xs ys)->(∀ a∈xs,∀ b,okJ N (.one a b)->∃ r st',Uni st (.one a b) r st')->∃ r st',Uni st (.list xs ys) r st':=by
   intro xs
   induction xs with
   | nil=>
    intro ys hj _
    have:ys=[]:=List.eq_nil_of_length_eq_zero hj.2.2.symm
    subst this
    exact ⟨true,st,.nil⟩
   | cons a xs ih=>
    intro ys hj hP
    cases ys with
    | nil=>have:=hj.2.2; simp at this
    | cons b ys=>
     have hjab:okJ N (.one a b):=⟨hj.1 _ (List.mem_cons_self ..),hj.2.1 _ (List.mem_cons_self ..)⟩
     have hjl:okJ N (.list xs ys):=⟨fun a ha=>hj.1 a (List.mem_cons_of_mem _ ha),fun b hb=>hj.2.1 b (List.mem_cons_of_mem _ hb),by have:=hj.2.2; simpa using this⟩
     obtain ⟨r,st1,h1⟩:=hP a (List.mem_cons_self ..) b hjab
     cases r with
     | false=>exact ⟨false,st1,.stop h1⟩
     | true=>
      obtain ⟨hg1,hu1⟩:=h1.good hg hjab
      rcases hu1 with rfl|hu1
      ·obtain ⟨r,st2,h2⟩:=ih ys hjl fun a ha=>hP a (List.mem_cons_of_mem _ ha)
       exact ⟨r,st2,.go h1 h2⟩
      ·obtain ⟨r,st2,h2⟩:=ihU (unb st1) (by omega) st1 hg1 (Nat.le_refl _) _ hjl
       exact ⟨r,st2,.go h1 h2⟩
  obtain ⟨rk,hrk⟩:=hg.rk
  have hone:∀ (m:Nat) (a:T),(∀ x∈vT a,∀ u,st[x]?=some (some u)->rk x<m)->∀ b,okJ N (.one a b)->∃ r st',Uni st (.one a b) r st':=by
   intro m
   induction m using Nat.strongRecOn with
   | _ m ihm=>
    refine T.ind fun k n s ks ih hr b hj=>?_
    obtain ⟨b',hb⟩:=M1 hg b
    have hbo:=dQ hg hb hj.2
    cases hl:look st (.mk k n s ks) with
    | some u=>
     obtain ⟨hk,hs⟩:=cT.1 hl
     have hlt:=hr _ (by rw [ii hk]; exact List.mem_singleton.2 rfl) u hs
     have hju:okJ N (.one u b):=⟨hg.look_ok hl,hj.2⟩
     obtain ⟨r,st',hu⟩:=ihm _ hlt u (fun x hx _ _=>hrk _ _ hs x hx) b hju
     refine ⟨r,st',?_⟩
     cases hu with
     | same h1 h2 h3 h4 h5=>exact .same (.step hl h1) h2 h3 h4 h5
     | bindA h1 h2 h3 h4 h5=>exact .bindA (.step hl h1) h2 h3 h4 h5
     | occA h1 h2 h3 h4 h5=>exact .occA (.step hl h1) h2 h3 h4 h5
     | bindB h1 h2 h3 h4 h5=>exact .bindB (.step hl h1) h2 h3 h4 h5
     | occB h1 h2 h3 h4 h5=>exact .occB (.step hl h1) h2 h3 h4 h5
     | clash h1 h2 h3 h4 h5=>exact .clash (.step hl h1) h2 h3 h4 h5
     | kids h1 h2 h3 h4 h5 h6=>exact .kids (.step hl h1) h2 h3 h4 h5 h6
    | none=>
     have ha:cU st (.mk k n s ks) (.mk k n s ks):=.stop hl
     by_cases hk:(T.mk k n s ks).kind=1
     ·by_cases hsame:b'.kind=1/\(T.mk k n s ks).n=b'.n
      ·exact ⟨_,_,.same ha hb hk hsame.1 hsame.2⟩
      ·by_cases ho:fk st (T.mk k n s ks).n.toNat b'
       ·exact ⟨_,_,.occA ha hb hk hsame ho⟩
       ·exact ⟨_,_,.bindA ha hb hk hsame ho⟩
     ·by_cases hkb:b'.kind=1
      ·by_cases ho:fk st b'.n.toNat (T.mk k n s ks)
       ·exact ⟨_,_,.occB ha hb hk hkb ho⟩
       ·exact ⟨_,_,.bindB ha hb hk hkb ho⟩
      ·cases hd:iF (T.mk k n s ks) b' with
       | false=>exact ⟨_,_,.clash ha hb hk hkb hd⟩
       | true=>
        obtain ⟨r,st',hu⟩:=hlist ks b'.kids ⟨jb hj.1,jb hbo,qK hd⟩ fun a ha' b2 hj2=>
         ih a ha' (fun x hx u hs=>hr x (by rw [AW hk]; exact oP.2 ⟨a,ha',hx⟩) u hs) b2 hj2
        exact ⟨r,st',.kids ha hb hk hkb hd hu⟩
  have hall:∀ a b,okJ N (.one a b)->∃ r st',Uni st (.one a b) r st':=by
   intro a b hj
   have hM:∀ l:List Nat,∃ M,∀ m∈l,rk m<M:=by
    intro l
    induction l with
    | nil=>exact ⟨0,by simp⟩
    | cons x l ih=>
     obtain ⟨M,hM⟩:=ih
     refine ⟨M+rk x+1,fun m hm=>?_⟩
     rcases List.mem_cons.1 hm with rfl|hm
     ·omega
     ·have:=hM m hm; omega
   obtain ⟨M,hM⟩:=hM (vT a)
   exact hone M a (fun x hx _ _=>hM x hx) b hj
  intro j hj
  cases j with
  | one a b=>exact hall a b hj
  | list xs ys=>exact hlist xs ys hj fun a _ b hjb=>hall a b hjb
inductive N0 where
 | one (t u:T)
 | list (ts us:List T)
inductive Res (st:aF):N0->Prop
 | one {t v:T} {us:List T}:cU st t v->Res st (.list v.kids us)->Res st (.one t (.mk v.kind v.n v.name us))
 | nil:Res st (.list [] [])
 | cons {t u:T} {ts us:List T}:Res st (.one t u)->Res st (.list ts us)->Res st (.list (t::ts) (u::us))
theorem Gq {N:Nat} {st:aF} (h:Good N st) (t:T) (ho:okU N t):∃ u,Res st (.one t u):=by
 obtain ⟨rk,hrk⟩:=h.rk
 have hlist:∀ ts:List T,(∀ t∈ts,∃ u,Res st (.one t u))->∃ us,Res st (.list ts us):=by
  intro ts
  induction ts with
  | nil=>exact fun _=>⟨[],.nil⟩
  | cons t ts ih=>
   intro hP
   obtain ⟨u,hu⟩:=hP t (List.mem_cons_self ..)
   obtain ⟨us,hus⟩:=ih fun x hx=>hP x (List.mem_cons_of_mem _ hx)
   exact ⟨u::us,.cons hu hus⟩
 have hone:∀ (m:Nat) (a:T),(∀ x∈vT a,∀ u,st[x]?=some (some u)->rk x<m)->(okU N a)->∃ u,Res st (.one a u):=by
  intro m
  induction m using Nat.strongRecOn with
  | _ m ihm=>
   refine T.ind fun k n s ks ih hr ho=>?_
   cases hl:look st (.mk k n s ks) with
   | some u=>
    obtain ⟨hk,hs⟩:=cT.1 hl
    have hlt:=hr _ (by rw [ii hk]; exact List.mem_singleton.2 rfl) u hs
    obtain ⟨u',hu⟩:=ihm _ hlt u (fun x hx _ _=>hrk _ _ hs x hx) (h.look_ok hl).1
    refine ⟨u',?_⟩
    cases hu with
    | one h1 h2=>exact .one (.step hl h1) h2
   | none=>
    by_cases hk:(T.mk k n s ks).kind=1
    ·have:=(ho.var hk).2.2.2
     have e:ks=[]:=this
     subst e
     exact ⟨_,.one (.stop hl) .nil⟩
    ·obtain ⟨us,hus⟩:=hlist ks fun a ha=>ih a ha (fun x hx u hs=>hr x (by rw [AW hk]; exact oP.2 ⟨a,ha,hx⟩) u hs) (jr ho.kids a ha)
     exact ⟨_,.one (.stop hl) hus⟩
 have hM:∀ l:List Nat,∃ M,∀ m∈l,rk m<M:=by
  intro l
  induction l with
  | nil=>exact ⟨0,by simp⟩
  | cons x l ih=>
   obtain ⟨M,hM⟩:=ih
   refine ⟨M+rk x+1,fun m hm=>?_⟩
   rcases List.mem_cons.1 hm with rfl|hm
   ·omega
   ·have:=hM m hm; omega
 obtain ⟨M,hM⟩:=hM (vT t)
 exact hone M t (fun x hx _ _=>hM x hx) ho
end
end Go.Proofs.YtfcbhfjomgopbaaGreat
